/- next: the reference's, over frames as functions. -/
import Derived.Test.YtbjgebbfachgfaacW13
import Derived.Test.YtbjgebbfachgfaacJ7
import Derived.Test.YtbjgebbfachgfaacJ6
import Derived.Test.YtbjgebbfachgfaacJ8
set_option linter.unusedVariables false
set_option linter.unusedSimpArgs false
set_option linter.unusedSectionVars false
set_option linter.all false
namespace Go.Proofs.Ytbjgebbfachgfaa
open Go.RowKit

theorem Cells.conv {w : World} {b : Nat} {l l' : List Value} (h : Cells w b l') (e : l' = l) : Cells w b l := e ▸ h
def NSl (w : World) (A : Nat) (s : Nat → Value) : Prop := s 2 = .pointer (some ⟨w.heap.size, 0, none⟩) ∧ s 3 = .pointer (some ⟨w.heap.size + 1, 0, none⟩) ∧ s 4 = .pointer (some ⟨w.heap.size + 1 + 1, 0, none⟩) ∧ s 5 = .pointer (some ⟨w.heap.size + 1 + 1 + 1, 0, none⟩) ∧ s 6 = .pointer (some ⟨A, 0, none⟩) ∧ s 7 = .pointer (some ⟨A + 1, 0, none⟩)
def RNextRes (W : Work) (q : Qu) (w : World) (e : Ending) (w' : World) : Prop := ∃ g c, e = .returned (.tuple #[.agg #[.int .i64 (nextStep W q).1.kind, .int .i64 (nextStep W q).1.job, .int .i64 (nextStep W q).1.from0, .int .i64 (nextStep W q).1.until0], .agg #[.int .i64 (nextStep W q).2.now, .slice (some ⟨g, 0, none⟩) (nextStep W q).2.jobs.length c]]) ∧
      w.heap.size ≤ g ∧ RdSts w' (some ⟨g, 0, none⟩) (nextStep W q).2.jobs ∧ Below w.heap.size w w'

theorem taken_cand {W : Work} {q : Qu} : ∀ (k m : Nat), takenUpto W q k = (m : Int) → cand W q m = true
  | 0, m, h => by unfold takenUpto at h; omega
  | k + 1, m, h => by
    simp only [takenUpto] at h
    split at h
    · rename_i hc
      have : k = m := by omega
      subst this
      simp only [Bool.and_eq_true] at hc
      exact hc.1
    · exact taken_cand k m h
theorem rend_b (j : Job) (w : World) : Calls Try.prog 39 #[.agg #[.string j.name, .int .i64 j.arrive, .int .i64 j.claim, .int .i64 j.needs]] w fun e w' => e = .returned (.int .i64 j.fin) ∧ Below w.heap.size w w' :=
  (rend_any _ _ _ _ w).mono fun _ _ ⟨h1, h2⟩ => ⟨h1, h2 ▸ below_alloc1 _ _⟩

theorem rend_c (j : Job) {w0 w : World} {N : Nat} (hw : Below N w0 w) (hN : N ≤ w.heap.size) : Calls Try.prog 39 #[.agg #[.string j.name, .int .i64 j.arrive, .int .i64 j.claim, .int .i64 j.needs]] w fun e w'' => e = .returned (.int .i64 j.fin) ∧ Below N w0 w'' :=
  (rend_b j w).mono fun _ _ ⟨h1, h2⟩ => ⟨h1, hw.trans (h2.mono hN)⟩

theorem set5 {α : Type} (a b c d e : α) (t : List α) (i : Nat) (v : α) : (a :: b :: c :: d :: e :: t).set (i + 5) v = a :: b :: c :: d :: e :: t.set i v := rfl
theorem flat_set5 (x : St) : ∀ (l : List St) (m : Nat), m < l.length → (l.set m x).flatMap St.cs = (((((l.flatMap St.cs).set (m * 5) (.int .i64 x.progress)).set (m * 5 + 1) (.int .i64 x.since)).set (m * 5 + 2) (.int .i64 x.charge)).set (m * 5 + 3) (.int .i64 x.why)).set (m * 5 + 4) (.int .i64 x.ended)
  | [], m, h => by simp at h
  | y :: l, 0, _ => rfl
  | y :: l, m + 1, h => by
    have ih := flat_set5 x l m (by simpa using h)
    show St.cs y ++ (l.set m x).flatMap St.cs = ((((((St.cs y ++ l.flatMap St.cs)).set ((m + 1) * 5) _).set ((m + 1) * 5 + 1) _).set ((m + 1) * 5 + 2) _).set ((m + 1) * 5 + 3) _).set ((m + 1) * 5 + 4) _
    rw [ih, show (m + 1) * 5 = m * 5 + 5 by omega, show m * 5 + 5 + 1 = m * 5 + 1 + 5 by omega, show m * 5 + 5 + 2 = m * 5 + 2 + 5 by omega, show m * 5 + 5 + 3 = m * 5 + 3 + 5 by omega, show m * 5 + 5 + 4 = m * 5 + 4 + 5 by omega]
    rfl

theorem own_pos' {w : World} {base : Nat} {e : TypeId} {size : Nat} {v : Value} {n : Nat} {xs : List Value} (h : w.ownsRow base e size v n xs) (hn : 0 < n) : ∃ g cap, v = .slice (some ⟨g, 0, none⟩) n cap := by
  rcases h.2 with ⟨_, h0⟩ | ⟨g, cap, _, hv, _⟩
  · omega
  · exact ⟨g, cap, hv⟩

set_option maxRecDepth 100000 in
set_option maxHeartbeats 20000000 in
theorem rnext_any (W : Work) (q : Qu) (aj af aq : Option Addr) (cj cf cq : Nat) (w : World) (hW : WorkIn w W aj af) (hq : RdSts w aq q.jobs) (hK : WOk W) (hQ : QOk W q) (hne : 0 < q.jobs.length) :
    Calls Try.prog 57 #[.agg #[.int .i64 W.rules.slice, .int .i64 W.rules.load, .int .i64 W.rules.dump, .int .i64 W.rules.patience, .int .i64 W.rules.rate, .slice aj W.jobs.length cj, .slice af W.faults.length cf], .agg #[.int .i64 q.now, .slice aq q.jobs.length cq]] w (RNextRes W q w) := by
  obtain ⟨i0, hi0, hz0, hz1, hz2⟩ := info_parts info_st
  have HW := hid hW
  have Hq := hid hq
  have HK := hid hK
  have HQ := hid hQ
  have hle : q.jobs.length ≤ 12 := by have := hK.jl; have := hQ.len; omega
  have hlf := hK.fl
  obtain ⟨b2, off2, rfl, hb2, hcells⟩ : ∃ b off, aq = some ⟨b, off, none⟩ ∧ b < w.heap.size ∧ ∀ i x, q.jobs[i]? = some x → ∀ j v, (St.cs x)[j]? = some v → w.cell? ⟨b, off + i * 5 + j, none⟩ = some v := by
    rcases hq with h | h
    · simp [h] at hne
    · exact h
  have Hcells := hid hcells
  clear hW hq hK hQ hcells
  refine enter_F Try.func57 rfl Try.ntmps57 (by simp) ?_
  intro s hs
  have sl0 : s 0 = .agg #[.int .i64 W.rules.slice, .int .i64 W.rules.load, .int .i64 W.rules.dump, .int .i64 W.rules.patience, .int .i64 W.rules.rate, .slice aj W.jobs.length cj, .slice af W.faults.length cf] := hs 0 (by simp)
  have sl1 : s 1 = .agg #[.int .i64 q.now, .slice (some ⟨b2, off2, none⟩) q.jobs.length cq] := hs 1 (by simp)
  clear hs
  repeat (first | ((first | (refine listF_step rfl (fun K' hK => ?_)) | (refine listF_yes rfl rfl (by decide) ?_ (fun K' hK => ?_); (focus (go_simp; done)))); unfold opF; go_simp; (refine hK _ _ ?_); clear hK K') | (refine listF_no (b' := true) rfl rfl (by decide) ?_ ?_ ?_; (focus (go_simp; done)); (focus rfl)) | (refine listF_no (b' := false) rfl rfl (by decide) ?_ ?_ ?_; (focus (go_simp; done)); (focus rfl)) | (refine listF_nu rfl rfl (by decide) ?_ ?_; (focus (go_simp; done))) | (refine listF_nil ?_) | (refine region_F ?_) | (refine cond_F true ?_ ?_; (focus (go_simp; done)); simp only [if_true]) | (refine cond_F false ?_ ?_; (focus (go_simp; done)); simp only [Bool.false_eq_true, if_false]) | (with_reducible go_step))
  refine listF_absw ?_
  intro wA hwA
  have k0 : Cells wA w.heap.size #[.int .i64 W.rules.slice, .int .i64 W.rules.load, .int .i64 W.rules.dump, .int .i64 W.rules.patience, .int .i64 W.rules.rate, .slice aj W.jobs.length cj, .slice af W.faults.length cf].toList := by rw [hwA]; exact (by repeat (first | (with_reducible exact Cells.new (by first | omega | (simp; done) | (simp; omega))) | (with_reducible refine Cells.up ?_ _) | (with_reducible refine Cells.drew ?_)))
  have k1 : Cells wA (w.heap.size + 1) [.int .i64 q.now, .slice (some ⟨b2, off2, none⟩) q.jobs.length cq] := by rw [hwA]; exact Cells.up (Cells.up (Cells.up (Cells.new (cs := #[.int .i64 q.now, .slice (some ⟨b2, off2, none⟩) q.jobs.length cq]) (by first | omega | (simp; done) | (simp; omega))) _) _) _
  have k2 : Cells wA (w.heap.size + 1 + 1) [.int .i64 0, .int .i64 0, .int .i64 0, .int .i64 0] := by rw [hwA]; exact Cells.up (Cells.up (Cells.new (cs := #[.int .i64 0, .int .i64 0, .int .i64 0, .int .i64 0]) (by first | omega | (simp; done) | (simp; omega))) _) _
  have k3 : Cells wA (w.heap.size + 1 + 1 + 1) [.int .i64 0, .slice none 0 0] := by rw [hwA]; exact Cells.up (Cells.new (cs := #[.int .i64 0, .slice none 0 0]) (by first | omega | (simp; done) | (simp; omega))) _
  have HB4 : Hid (Below w.heap.size w wA) := hid (by rw [hwA]; exact (by repeat (first | (with_reducible exact Below.refl _ w) | (with_reducible refine bdrewN ?_ _) | (with_reducible refine Below.drew ?_) | (with_reducible refine Below.setCell ?_ (by first | omega | (simp; done) | (simp; omega)) _) | (with_reducible refine Below.alloc ?_ (by first | omega | (simp; done) | (simp; omega)) _))))
  have hsA : wA.heap.size = w.heap.size + 1 + 1 + 1 + 1 + 1 := by rw [hwA]; simp
  have hown : wA.ownsRow (w.heap.size + 1 + 1 + 1 + 1) 70 5 (.slice (some ⟨w.heap.size + 1 + 1 + 1 + 1, 0, none⟩) 0 0) 0 [] := by
    rw [hwA]
    have := World.ownsRow_made (e := 70) (size := 5) (base := w.heap.size + 1 + 1 + 1 + 1) ((((w.alloc (.cells #[.int .i64 W.rules.slice, .int .i64 W.rules.load, .int .i64 W.rules.dump, .int .i64 W.rules.patience, .int .i64 W.rules.rate, .slice aj W.jobs.length cj, .slice af W.faults.length cf] 27)).alloc (.cells #[.int .i64 q.now, .slice (some ⟨b2, off2, none⟩) q.jobs.length cq] 33)).alloc (.cells #[.int .i64 0, .int .i64 0, .int .i64 0, .int .i64 0] 40)).alloc (.cells #[.int .i64 0, .slice none 0 0] 33)) #[] 0 (by simp) (by unfold maxLen; omega) (by simp)
    simpa only [World.size_alloc] using this
  have Hown := hid hown
  have HsA := hid hsA
  clear hwA hown hsA
  have hfl : (q.jobs.flatMap St.cs).length = q.jobs.length * 5 := flat_len' (f := St.cs) (m := 5) (fun _ => rfl) _
  (refine listF_abs ?_; intro s' hs'; have gl2 := congrFun hs' 2; simp only [updS_some, updS_none, Nat.reduceEqDiff, ↓reduceIte] at gl2; (try rw [sl2] at gl2); have gl3 := congrFun hs' 3; simp only [updS_some, updS_none, Nat.reduceEqDiff, ↓reduceIte] at gl3; (try rw [sl3] at gl3); have gl4 := congrFun hs' 4; simp only [updS_some, updS_none, Nat.reduceEqDiff, ↓reduceIte] at gl4; (try rw [sl4] at gl4); have gl5 := congrFun hs' 5; simp only [updS_some, updS_none, Nat.reduceEqDiff, ↓reduceIte] at gl5; (try rw [sl5] at gl5); have gl17 := congrFun hs' 17; simp only [updS_some, updS_none, Nat.reduceEqDiff, ↓reduceIte] at gl17; (try rw [sl17] at gl17); have gl19 := congrFun hs' 19; simp only [updS_some, updS_none, Nat.reduceEqDiff, ↓reduceIte] at gl19; (try rw [sl19] at gl19); clear hs'; (try clear sl2); (try clear sl3); (try clear sl4); (try clear sl5); (try clear sl17); (try clear sl19); have sl2 := gl2; clear gl2; have sl3 := gl3; clear gl3; have sl4 := gl4; clear gl4; have sl5 := gl5; clear gl5; have sl17 := gl17; clear gl17; have sl19 := gl19; clear gl19)
  have hnews : ∀ j u, (q.jobs.flatMap St.cs)[j]? = some u → wA.cell? ((⟨b2, off2, none⟩ : Addr).add j) = some u := by
    refine Rd.flat' (f := St.cs) (m := 5) (fun _ => rfl) fun i x hi j v hv => ?_
    have := Hcells.out i x hi j v hv
    rwa [← HB4.out.cell (p := ⟨b2, _, none⟩) hb2] at this
  refine listF_step rfl (fun K' hK => ?_)
  refine opF_of_wp (d := 20) rfl (by decide) (fun K1 Q1 hK1 => wp_append_own _ _ _ 31 rfl (w.heap.size + 1 + 1 + 1 + 1) 70 i0 _ 5 40 Try.underlying31 hi0 hz0 hz1 hz2 rfl (by decide) _ 0 [] (by rw [mkA_eval]; go_simp) Hown.out ⟨b2, off2, none⟩ q.jobs.length cq (q.jobs.flatMap St.cs) (by rw [mkA_eval]; go_simp) hfl hnews (st_one' _) (by unfold maxLen; omega) (by omega) (by have := HsA.out; omega) (fun v5 w5 ho5 hg5 _ => hK1 _ _ (hK _ _ ?_)))
  clear hK hnews hfl
  rw [Nat.zero_add] at ho5
  obtain ⟨g, cap, rfl⟩ := own_pos' ho5 hne
  have hb5 : Below (w.heap.size + 1 + 1 + 1 + 1) wA w5 := (Below.refl _ _).grown hg5 (by have := HsA.out; omega) (fun k hk => by cases hk; exact Nat.le_refl _)
  obtain ⟨hg1, hg2⟩ := World.ownsRow.lt ho5 g rfl
  have kg : Cells w5 g (q.jobs.flatMap St.cs) := Own.toCells (f := St.cs) (m := 5) (T := 70) (base := w.heap.size + 1 + 1 + 1 + 1) (l := q.jobs) (by unfold Own; simpa using ho5)
  replace k0 := k0.low hb5 (by omega)
  replace k1 := k1.low hb5 (by omega)
  replace k2 := k2.low hb5 (by omega)
  replace k3 := k3.low hb5 (by omega)
  have HB5 := hid (HB4.out.trans (hb5.mono (by omega)) : Below w.heap.size w w5)
  have hs5 : w.heap.size + 1 + 1 + 1 + 1 < w5.heap.size := by have := hb5.size; have := HsA.out; omega
  clear ho5 hg5 hb5 Hown HB4 HsA
  (refine listF_abs ?_; intro s' hs'; have gl2 := congrFun hs' 2; simp only [updS_some, updS_none, Nat.reduceEqDiff, ↓reduceIte] at gl2; (try rw [sl2] at gl2); have gl3 := congrFun hs' 3; simp only [updS_some, updS_none, Nat.reduceEqDiff, ↓reduceIte] at gl3; (try rw [sl3] at gl3); have gl4 := congrFun hs' 4; simp only [updS_some, updS_none, Nat.reduceEqDiff, ↓reduceIte] at gl4; (try rw [sl4] at gl4); have gl5 := congrFun hs' 5; simp only [updS_some, updS_none, Nat.reduceEqDiff, ↓reduceIte] at gl5; (try rw [sl5] at gl5); have gl20 := congrFun hs' 20; simp only [updS_some, updS_none, Nat.reduceEqDiff, ↓reduceIte] at gl20; (try rw [sl20] at gl20); clear hs'; (try clear sl2); (try clear sl3); (try clear sl4); (try clear sl5); (try clear sl20); have sl2 := gl2; clear gl2; have sl3 := gl3; clear gl3; have sl4 := gl4; clear gl4; have sl5 := gl5; clear gl5; have sl20 := gl20; clear gl20)
  have b0 := k1.cell 0 rfl
  have hs51 : w.heap.size + 1 < w5.heap.size := by omega
  repeat (first | ((first | (refine listF_step rfl (fun K' hK => ?_)) | (refine listF_yes rfl rfl (by decide) ?_ (fun K' hK => ?_); (focus (go_simp; done)))); unfold opF; go_simp; (refine hK _ _ ?_); clear hK K') | (refine listF_no (b' := true) rfl rfl (by decide) ?_ ?_ ?_; (focus (go_simp; done)); (focus rfl)) | (refine listF_no (b' := false) rfl rfl (by decide) ?_ ?_ ?_; (focus (go_simp; done)); (focus rfl)) | (refine listF_nu rfl rfl (by decide) ?_ ?_; (focus (go_simp; done))) | (refine listF_nil ?_) | (refine region_F ?_) | (refine cond_F true ?_ ?_; (focus (go_simp; done)); simp only [if_true]) | (refine cond_F false ?_ ?_; (focus (go_simp; done)); simp only [Bool.false_eq_true, if_false]) | (with_reducible go_step))
  clear b0
  refine wp_absw ?_
  intro wx hwx
  have kA : Cells wx w5.heap.size [.int .i64 0, .slice (some ⟨g, 0, none⟩) q.jobs.length cap] := by rw [hwx]; exact Cells.up (Cells.new (cs := #[.int .i64 0, .slice (some ⟨g, 0, none⟩) q.jobs.length cap]) rfl) _
  have kS : Cells wx (w5.heap.size + 1) [.int .i64 0, .int .i64 (-1), .int .i64 q.now, .int .i64 0] := by rw [hwx]; exact Cells.new (cs := #[.int .i64 0, .int .i64 (-1), .int .i64 q.now, .int .i64 0]) (by first | omega | (simp; done) | (simp; omega))
  have hbx : Below w5.heap.size w5 wx := by rw [hwx]; exact (by repeat (first | (with_reducible exact Below.refl _ w5) | (with_reducible refine bdrewN ?_ _) | (with_reducible refine Below.drew ?_) | (with_reducible refine Below.setCell ?_ (by first | omega | (simp; done) | (simp; omega)) _) | (with_reducible refine Below.alloc ?_ (by first | omega | (simp; done) | (simp; omega)) _)))
  replace k0 := k0.at hbx
  replace k1 := k1.at hbx
  replace k2 := k2.at hbx
  replace k3 := k3.at hbx
  replace kg := kg.at hbx
  have HBx := hid (HB5.out.trans (hbx.mono HB5.out.size) : Below w.heap.size w wx)
  have hsx : w5.heap.size + 1 < wx.heap.size := kS.1
  clear hwx hbx HB5
  (refine wp_abs ?_; intro s' hs'; have gl2 := congrFun hs' 2; simp only [updS_some, updS_none, Nat.reduceEqDiff, ↓reduceIte] at gl2; (try rw [sl2] at gl2); have gl3 := congrFun hs' 3; simp only [updS_some, updS_none, Nat.reduceEqDiff, ↓reduceIte] at gl3; (try rw [sl3] at gl3); have gl4 := congrFun hs' 4; simp only [updS_some, updS_none, Nat.reduceEqDiff, ↓reduceIte] at gl4; (try rw [sl4] at gl4); have gl5 := congrFun hs' 5; simp only [updS_some, updS_none, Nat.reduceEqDiff, ↓reduceIte] at gl5; (try rw [sl5] at gl5); have gl6 := congrFun hs' 6; simp only [updS_some, updS_none, Nat.reduceEqDiff, ↓reduceIte] at gl6; (try rw [sl6] at gl6); have gl7 := congrFun hs' 7; simp only [updS_some, updS_none, Nat.reduceEqDiff, ↓reduceIte] at gl7; (try rw [sl7] at gl7); have gl8 := congrFun hs' 8; simp only [updS_some, updS_none, Nat.reduceEqDiff, ↓reduceIte] at gl8; (try rw [sl8] at gl8); clear hs'; (try clear sl2); (try clear sl3); (try clear sl4); (try clear sl5); (try clear sl6); (try clear sl7); (try clear sl8); have sl2 := gl2; clear gl2; have sl3 := gl3; clear gl3; have sl4 := gl4; clear gl4; have sl5 := gl5; clear gl5; have sl6 := gl6; clear gl6; have sl7 := gl7; clear gl7; have sl8 := gl8; clear gl8)
  generalize w5.heap.size = A at *
  have HN := hid (show ∀ (W : Work) (q : Qu) (f : Fault), W.repairAt q.now = some f → nextStep W q = (⟨5, -1, q.now, f.at0 + f.rep⟩, ⟨f.at0 + f.rep, q.jobs⟩) from fun W q f h => by unfold nextStep; rw [h])
  refine loop_F (n := 245) (fun m s wr => ∃ k : Nat, m = W.faults.length - k ∧ k ≤ W.faults.length ∧ NSl w A s ∧ s 8 = .int .i64 k ∧ Below wx.heap.size wx wr ∧ Hid (∀ (j : Nat) (hj : j < W.faults.length), j < k → (decide (W.faults[j].at0 ≤ q.now) && decide (q.now < W.faults[j].at0 + W.faults[j].rep)) = false)) (k0 := W.faults.length) ⟨0, rfl, Nat.zero_le _, ⟨sl2, sl3, sl4, sl5, sl6, sl7⟩, sl8, Below.refl _ _, hid (fun i _ h => by omega)⟩ ?_
  clear sl2 sl3 sl4 sl5 sl6 sl7 sl8 sl20
  rintro m s wr ⟨k, rfl, hk, ⟨sl2, sl3, sl4, sl5, sl6, sl7⟩, sl8, hB, hno⟩
  have HBr := hid (HBx.out.trans (hB.mono HBx.out.size) : Below w.heap.size w wr)
  have hsr := hB.size
  have k0' := k0.at hB
  have k1' := k1.at hB
  have k2' := k2.at hB
  have k3' := k3.at hB
  have kA' := kA.at hB
  have kS' := kS.at hB
  have kg' := kg.at hB
  have c06 := k0'.cell 6 rfl
  have c10 := k1'.cell 0 rfl
  have q0 := k0'.1
  have q1 := k1'.1
  by_cases hlt : k < W.faults.length
  · obtain ⟨b, off, rfl, hb, d1, d2⟩ := RdFaults.ne (HW.out.faults.at HBr.out) hlt
    have x1 : (k : Int) < (W.faults.length : Int) := by omega
    have hwk : IntKind.i64.wrap ((k : Int) + 1) = (k : Int) + 1 := IntWalk.i64_in _ (by omega)
    have sm : IntKind.i64.wrap (W.faults[k].at0 + W.faults[k].rep) = W.faults[k].at0 + W.faults[k].rep := by have := HK.out.fb hlt; exact IntWalk.i64_in _ (by omega)
    obtain ⟨⟨z1, z2⟩, ⟨z3, z4⟩, _⟩ := HK.out.fb hlt
    as_aux_lemma =>
    rcases dec_or (W.faults[k].at0 ≤ q.now) with t1 | t1
    · rcases dec_or (q.now < W.faults[k].at0 + W.faults[k].rep) with t2 | t2
      · have Hr := hid (show W.repairAt q.now = some W.faults[k] from by
          unfold Work.repairAt
          rw [List.find?_eq_some_iff_getElem]
          exact ⟨by rw [t1, t2]; rfl, k, hlt, rfl, fun j hj => by rw [hno.out j (by omega) hj]; rfl⟩)
        repeat (first | ((first | (refine listF_step rfl (fun K' hK => ?_)) | (refine listF_yes rfl rfl (by decide) ?_ (fun K' hK => ?_); (focus (go_simp; done)))); unfold opF; go_simp; (refine hK _ _ ?_); clear hK K') | (refine listF_no (b' := true) rfl rfl (by decide) ?_ ?_ ?_; (focus (go_simp; done)); (focus rfl)) | (refine listF_no (b' := false) rfl rfl (by decide) ?_ ?_ ?_; (focus (go_simp; done)); (focus rfl)) | (refine listF_nu rfl rfl (by decide) ?_ ?_; (focus (go_simp; done))) | (refine listF_nil ?_) | (refine region_F ?_) | (refine cond_F true ?_ ?_; (focus (go_simp; done)); simp only [if_true]) | (refine cond_F false ?_ ?_; (focus (go_simp; done)); simp only [Bool.false_eq_true, if_false]) | (with_reducible go_step))
        (refine wp_abs ?_; intro s' hs'; have gl2 := congrFun hs' 2; simp only [updS_some, updS_none, Nat.reduceEqDiff, ↓reduceIte] at gl2; (try rw [sl2] at gl2); have gl3 := congrFun hs' 3; simp only [updS_some, updS_none, Nat.reduceEqDiff, ↓reduceIte] at gl3; (try rw [sl3] at gl3); have gl4 := congrFun hs' 4; simp only [updS_some, updS_none, Nat.reduceEqDiff, ↓reduceIte] at gl4; (try rw [sl4] at gl4); have gl5 := congrFun hs' 5; simp only [updS_some, updS_none, Nat.reduceEqDiff, ↓reduceIte] at gl5; (try rw [sl5] at gl5); have gl6 := congrFun hs' 6; simp only [updS_some, updS_none, Nat.reduceEqDiff, ↓reduceIte] at gl6; (try rw [sl6] at gl6); have gl7 := congrFun hs' 7; simp only [updS_some, updS_none, Nat.reduceEqDiff, ↓reduceIte] at gl7; (try rw [sl7] at gl7); have gl9 := congrFun hs' 9; simp only [updS_some, updS_none, Nat.reduceEqDiff, ↓reduceIte] at gl9; (try rw [sl9] at gl9); clear hs'; (try clear sl2); (try clear sl3); (try clear sl4); (try clear sl5); (try clear sl6); (try clear sl7); (try clear sl9); have sl2 := gl2; clear gl2; have sl3 := gl3; clear gl3; have sl4 := gl4; clear gl4; have sl5 := gl5; clear gl5; have sl6 := gl6; clear gl6; have sl7 := gl7; clear gl7; have sl9 := gl9; clear gl9)
        refine wp_absw ?_
        intro wy hwy
        have kF : Cells wy wr.heap.size [.int .i64 W.faults[k].at0, .int .i64 W.faults[k].rep] := by rw [hwy]; exact Cells.new (cs := #[.int .i64 W.faults[k].at0, .int .i64 W.faults[k].rep]) rfl
        have k2y : Cells wy (w.heap.size + 1 + 1) [.int .i64 0, .int .i64 0, .int .i64 0, .int .i64 0] := by rw [hwy]; exact k2'.up _
        have k3y : Cells wy (w.heap.size + 1 + 1 + 1) [.int .i64 0, .slice none 0 0] := by rw [hwy]; exact k3'.up _
        have kAy : Cells wy A [.int .i64 0, .slice (some ⟨g, 0, none⟩) q.jobs.length cap] := by rw [hwy]; exact kA'.up _
        have kSy : Cells wy (A + 1) [.int .i64 0, .int .i64 (-1), .int .i64 q.now, .int .i64 0] := by rw [hwy]; exact kS'.up _
        have kgy : Cells wy g (q.jobs.flatMap St.cs) := by rw [hwy]; exact kg'.up _
        have HBy := hid (show Below w.heap.size w wy by rw [hwy]; exact (by repeat (first | (with_reducible exact HBr.out) | (with_reducible refine bdrewN ?_ _) | (with_reducible refine Below.drew ?_) | (with_reducible refine Below.setCell ?_ (by first | omega | (simp; done) | (simp; omega)) _) | (with_reducible refine Below.alloc ?_ (by first | omega | (simp; done) | (simp; omega)) _))))
        have f0 := kF.cell 0 rfl
        have f1 := kF.cell 1 rfl
        have jF := kF.1
        have nF : ¬ wr.heap.size = A + 1 := by omega
        clear hwy k0' k1' k2' k3' kA' kS' kg' c06 c10 d1 d2 hb k0 k1 k2 k3 kA kS kg
        refine regionR_F [(A + 1)] [[.int .i64 0, .int .i64 (-1), .int .i64 q.now, .int .i64 0]] [9] [.q [], .q [], .q [], .q [], .q [], .q [], .st 9, .q [], .st 9] [?v2_0, ?v2_1, ?v2_2, ?v2_3, ?v2_4, ?v2_5, fun _ => undef, ?v2_7, fun _ => undef] [fun _ => [], fun _ => [], fun _ => [], fun _ => [], fun _ => [], fun _ => [], ?c2_6, fun _ => [], ?c2_8] (by kernel_rfl) (by kernel_rfl) (by kernel_rfl) (by kernel_rfl) (by kernel_rfl) (by first | exact List.nodup_nil | exact List.nodup_singleton _ | (simp; done) | (simp; omega)) (bc_cons (by repeat (first | (with_reducible exact kSy) | (with_reducible refine Cells.drew ?_) | (with_reducible refine Cells.up ?_ _) | (with_reducible refine Cells.setFar ?_ (by omega)))) bc_nil) ?walk2 ?dep2
        case walk2 =>
          refine walkR_q (by rfl) (fun X hX wq hwq hrq => ?_) ?_
          · obtain ⟨hcq, hfq⟩ := hwq.b1
            clear hrq
            go_simp
            (first | rfl | exact ⟨rfl, rfl⟩)
          refine walkR_q (by rfl) (fun X hX wq hwq hrq => ?_) ?_
          · obtain ⟨hcq, hfq⟩ := hwq.b1
            clear hrq
            go_simp
            (first | rfl | exact ⟨rfl, rfl⟩)
          refine walkR_q (by rfl) (fun X hX wq hwq hrq => ?_) ?_
          · obtain ⟨hcq, hfq⟩ := hwq.b1
            clear hrq
            go_simp
            (first | rfl | exact ⟨rfl, rfl⟩)
          refine walkR_q (by rfl) (fun X hX wq hwq hrq => ?_) ?_
          · obtain ⟨hcq, hfq⟩ := hwq.b1
            clear hrq
            go_simp
            (first | rfl | exact ⟨rfl, rfl⟩)
          refine walkR_q (by rfl) (fun X hX wq hwq hrq => ?_) ?_
          · obtain ⟨hcq, hfq⟩ := hwq.b1
            clear hrq
            go_simp
            (first | rfl | exact ⟨rfl, rfl⟩)
          refine walkR_q (by rfl) (fun X hX wq hwq hrq => ?_) ?_
          · obtain ⟨hcq, hfq⟩ := hwq.b1
            clear hrq
            go_simp
            (first | rfl | exact ⟨rfl, rfl⟩)
          refine walkR_st (by rfl) (fun X hX wq hwq hkq => ?_) ?_
          · rw [show X 9 = (A + 1) from hX.at0 0 _ rfl] at hkq ⊢
            replace hkq : Cells wq (A + 1) [.int .i64 0, .int .i64 (-1), .int .i64 q.now, .int .i64 0] := hkq
            have hks := hkq.1
            have hkz := hkq.2.2
            have hk0 := hkq.cell 0 rfl
            have hk1 := hkq.cell 1 rfl
            have hk2 := hkq.cell 2 rfl
            have hk3 := hkq.cell 3 rfl
            go_simp
            (first | ((with_reducible refine writeB_mk (Cells.set hkq) ?_ ?_); (focus (repeat (first | (with_reducible exact Only.refl _ _) | (with_reducible refine Only.set ?_)))); rfl) | ((with_reducible refine writeB_mk (Cells.set (Cells.set hkq)) ?_ ?_); (focus (repeat (first | (with_reducible exact Only.refl _ _) | (with_reducible refine Only.set ?_)))); rfl) | ((with_reducible refine writeB_mk (Cells.set (Cells.set (Cells.set hkq))) ?_ ?_); (focus (repeat (first | (with_reducible exact Only.refl _ _) | (with_reducible refine Only.set ?_)))); rfl) | ((with_reducible refine writeB_mk (Cells.set (Cells.set (Cells.set (Cells.set hkq)))) ?_ ?_); (focus (repeat (first | (with_reducible exact Only.refl _ _) | (with_reducible refine Only.set ?_)))); rfl) | ((with_reducible refine writeB_mk (Cells.set (Cells.set (Cells.set (Cells.set (Cells.set hkq))))) ?_ ?_); (focus (repeat (first | (with_reducible exact Only.refl _ _) | (with_reducible refine Only.set ?_)))); rfl) | ((with_reducible refine writeB_mk (Cells.set (Cells.set (Cells.set (Cells.set (Cells.set (Cells.set hkq)))))) ?_ ?_); (focus (repeat (first | (with_reducible exact Only.refl _ _) | (with_reducible refine Only.set ?_)))); rfl) | ((with_reducible refine writeB_mk (Cells.set (Cells.set (Cells.set (Cells.set (Cells.set (Cells.set (Cells.set hkq))))))) ?_ ?_); (focus (repeat (first | (with_reducible exact Only.refl _ _) | (with_reducible refine Only.set ?_)))); rfl) | ((with_reducible refine writeB_mk (Cells.set (Cells.set (Cells.set (Cells.set (Cells.set (Cells.set (Cells.set (Cells.set hkq)))))))) ?_ ?_); (focus (repeat (first | (with_reducible exact Only.refl _ _) | (with_reducible refine Only.set ?_)))); rfl))
          refine walkR_q (by rfl) (fun X hX wq hwq hrq => ?_) ?_
          · obtain ⟨hcq, hfq⟩ := hwq.b1
            clear hrq
            go_simp
            (first | rfl | exact ⟨rfl, rfl⟩)
          refine walkR_st (by rfl) (fun X hX wq hwq hkq => ?_) ?_
          · rw [show X 9 = (A + 1) from hX.at0 0 _ rfl] at hkq ⊢
            simp only [updC_some, updC_none, Nat.reduceEqDiff, ↓reduceIte] at hkq
            have hks := hkq.1
            have hkz := hkq.2.2
            have hk0 := hkq.cell 0 rfl
            have hk1 := hkq.cell 1 rfl
            have hk2 := hkq.cell 2 rfl
            have hk3 := hkq.cell 3 rfl
            go_simp
            (first | ((with_reducible refine writeB_mk (Cells.set hkq) ?_ ?_); (focus (repeat (first | (with_reducible exact Only.refl _ _) | (with_reducible refine Only.set ?_)))); rfl) | ((with_reducible refine writeB_mk (Cells.set (Cells.set hkq)) ?_ ?_); (focus (repeat (first | (with_reducible exact Only.refl _ _) | (with_reducible refine Only.set ?_)))); rfl) | ((with_reducible refine writeB_mk (Cells.set (Cells.set (Cells.set hkq))) ?_ ?_); (focus (repeat (first | (with_reducible exact Only.refl _ _) | (with_reducible refine Only.set ?_)))); rfl) | ((with_reducible refine writeB_mk (Cells.set (Cells.set (Cells.set (Cells.set hkq)))) ?_ ?_); (focus (repeat (first | (with_reducible exact Only.refl _ _) | (with_reducible refine Only.set ?_)))); rfl) | ((with_reducible refine writeB_mk (Cells.set (Cells.set (Cells.set (Cells.set (Cells.set hkq))))) ?_ ?_); (focus (repeat (first | (with_reducible exact Only.refl _ _) | (with_reducible refine Only.set ?_)))); rfl) | ((with_reducible refine writeB_mk (Cells.set (Cells.set (Cells.set (Cells.set (Cells.set (Cells.set hkq)))))) ?_ ?_); (focus (repeat (first | (with_reducible exact Only.refl _ _) | (with_reducible refine Only.set ?_)))); rfl) | ((with_reducible refine writeB_mk (Cells.set (Cells.set (Cells.set (Cells.set (Cells.set (Cells.set (Cells.set hkq))))))) ?_ ?_); (focus (repeat (first | (with_reducible exact Only.refl _ _) | (with_reducible refine Only.set ?_)))); rfl) | ((with_reducible refine writeB_mk (Cells.set (Cells.set (Cells.set (Cells.set (Cells.set (Cells.set (Cells.set (Cells.set hkq)))))))) ?_ ?_); (focus (repeat (first | (with_reducible exact Only.refl _ _) | (with_reducible refine Only.set ?_)))); rfl))
          refine walkR_nil (fun X hX wz hwz hcz => ?_)
          have kz0 := hcz 9 (by simp)
          rw [show X 9 = (A + 1) from hX.at0 0 _ rfl] at kz0
          simp only [updC_some, updC_none, Nat.reduceEqDiff, ↓reduceIte] at kz0
          clear hX hcz
          (try clear X)
          have kS8 : Cells wz (A + 1) [.int .i64 5, .int .i64 (-1), .int .i64 q.now, .int .i64 (W.faults[k].at0 + W.faults[k].rep)] := kz0
          have kA8 := kAy.old hwz (by simp)
          have k28 := k2y.old hwz (by simp; omega)
          have k38 := k3y.old hwz (by simp; omega)
          have kg8 := kgy.old hwz (by simp; omega)
          have HB8 := hid (HBy.out.trans (hwz.low (N := w.heap.size) (by omega) (by simp; omega)))
          have g3 := kS8.cell 3 rfl
          have g0 := kA8.cell 0 rfl
          have gz := kA8.2.2
          have jA := kA8.1
          have jS := kS8.1
          clear kz0 hwz f0 f1 kF kSy kAy k2y k3y kgy HBy
          repeat (first | ((first | (refine listF_step rfl (fun K' hK => ?_)) | (refine listF_yes rfl rfl (by decide) ?_ (fun K' hK => ?_); (focus (go_simp; done)))); unfold opF; go_simp; (refine hK _ _ ?_); clear hK K') | (refine listF_no (b' := true) rfl rfl (by decide) ?_ ?_ ?_; (focus (go_simp; done)); (focus rfl)) | (refine listF_no (b' := false) rfl rfl (by decide) ?_ ?_ ?_; (focus (go_simp; done)); (focus rfl)) | (refine listF_nu rfl rfl (by decide) ?_ ?_; (focus (go_simp; done))) | (refine listF_nil ?_) | (refine region_F ?_) | (refine cond_F true ?_ ?_; (focus (go_simp; done)); simp only [if_true]) | (refine cond_F false ?_ ?_; (focus (go_simp; done)); simp only [Bool.false_eq_true, if_false]) | (with_reducible go_step))
          (refine wp_abs ?_; intro s' hs'; have gl2 := congrFun hs' 2; simp only [updS_some, updS_none, Nat.reduceEqDiff, ↓reduceIte] at gl2; (try rw [sl2] at gl2); have gl3 := congrFun hs' 3; simp only [updS_some, updS_none, Nat.reduceEqDiff, ↓reduceIte] at gl3; (try rw [sl3] at gl3); have gl4 := congrFun hs' 4; simp only [updS_some, updS_none, Nat.reduceEqDiff, ↓reduceIte] at gl4; (try rw [sl4] at gl4); have gl5 := congrFun hs' 5; simp only [updS_some, updS_none, Nat.reduceEqDiff, ↓reduceIte] at gl5; (try rw [sl5] at gl5); have gl6 := congrFun hs' 6; simp only [updS_some, updS_none, Nat.reduceEqDiff, ↓reduceIte] at gl6; (try rw [sl6] at gl6); have gl7 := congrFun hs' 7; simp only [updS_some, updS_none, Nat.reduceEqDiff, ↓reduceIte] at gl7; (try rw [sl7] at gl7); clear hs'; (try clear sl2); (try clear sl3); (try clear sl4); (try clear sl5); (try clear sl6); (try clear sl7); have sl2 := gl2; clear gl2; have sl3 := gl3; clear gl3; have sl4 := gl4; clear gl4; have sl5 := gl5; clear gl5; have sl6 := gl6; clear gl6; have sl7 := gl7; clear gl7)
          refine wp_absw ?_
          intro wv hwv
          have kA9 : Cells wv A [.int .i64 (W.faults[k].at0 + W.faults[k].rep), .slice (some ⟨g, 0, none⟩) q.jobs.length cap] := by rw [hwv]; exact (by apply Cells.conv; (focus (repeat (first | (with_reducible exact kA8) | (with_reducible apply Cells.set) | ((with_reducible apply Cells.setFar); case hn => omega) | (with_reducible apply Cells.up) | (with_reducible apply Cells.drew)))); rfl)
          have kS9 : Cells wv (A + 1) [.int .i64 5, .int .i64 (-1), .int .i64 q.now, .int .i64 (W.faults[k].at0 + W.faults[k].rep)] := by rw [hwv]; exact (by apply Cells.conv; (focus (repeat (first | (with_reducible exact kS8) | (with_reducible apply Cells.set) | ((with_reducible apply Cells.setFar); case hn => omega) | (with_reducible apply Cells.up) | (with_reducible apply Cells.drew)))); rfl)
          have k29 : Cells wv (w.heap.size + 1 + 1) [.int .i64 0, .int .i64 0, .int .i64 0, .int .i64 0] := by rw [hwv]; exact (by apply Cells.conv; (focus (repeat (first | (with_reducible exact k28) | (with_reducible apply Cells.set) | ((with_reducible apply Cells.setFar); case hn => omega) | (with_reducible apply Cells.up) | (with_reducible apply Cells.drew)))); rfl)
          have k39 : Cells wv (w.heap.size + 1 + 1 + 1) [.int .i64 0, .slice none 0 0] := by rw [hwv]; exact (by apply Cells.conv; (focus (repeat (first | (with_reducible exact k38) | (with_reducible apply Cells.set) | ((with_reducible apply Cells.setFar); case hn => omega) | (with_reducible apply Cells.up) | (with_reducible apply Cells.drew)))); rfl)
          have kg9 : Cells wv g (q.jobs.flatMap St.cs) := by rw [hwv]; exact (by apply Cells.conv; (focus (repeat (first | (with_reducible exact kg8) | (with_reducible apply Cells.set) | ((with_reducible apply Cells.setFar); case hn => omega) | (with_reducible apply Cells.up) | (with_reducible apply Cells.drew)))); rfl)
          have HB9 := hid (show Below w.heap.size w wv by rw [hwv]; exact (by repeat (first | (with_reducible exact HB8.out) | (with_reducible refine bdrewN ?_ _) | (with_reducible refine Below.drew ?_) | (with_reducible refine Below.setCell ?_ (by first | omega | (simp; done) | (simp; omega)) _) | (with_reducible refine Below.alloc ?_ (by first | omega | (simp; done) | (simp; omega)) _))))
          clear hwv g3 g0 gz jA jS kS8 kA8 k28 k38 kg8 HB8
          have cS0 := kS9.cell 0 rfl
          have cS1 := kS9.cell 1 rfl
          have cS2 := kS9.cell 2 rfl
          have cS3 := kS9.cell 3 rfl
          have cA0 := kA9.cell 0 rfl
          have cA1 := kA9.cell 1 rfl
          have jS := kS9.1
          have jA := kA9.1
          have j2 := k29.1
          have j3 := k39.1
          have mS2 : ¬ (A + 1) = w.heap.size + 1 + 1 := by omega
          have mS3 : ¬ (A + 1) = w.heap.size + 1 + 1 + 1 := by omega
          have mA2 : ¬ A = w.heap.size + 1 + 1 := by omega
          have mA3 : ¬ A = w.heap.size + 1 + 1 + 1 := by omega
          have mS2' : ¬ A = w.heap.size + 1 := by omega
          have mS3' : ¬ A = w.heap.size + 1 + 1 := by omega
          refine regionR_F [(w.heap.size + 1 + 1), (w.heap.size + 1 + 1 + 1)] [[.int .i64 0, .int .i64 0, .int .i64 0, .int .i64 0], [.int .i64 0, .slice none 0 0]] [4, 5] [.q [], .q [], .st 4, .st 5] [?v1_0, ?v1_1, fun _ => undef, fun _ => undef] [fun _ => [], fun _ => [], ?c1_2, ?c1_3] (by kernel_rfl) (by kernel_rfl) (by kernel_rfl) (by kernel_rfl) (by kernel_rfl) (by first | exact List.nodup_nil | exact List.nodup_singleton _ | (simp; done) | (simp; omega)) (bc_cons (by repeat (first | (with_reducible exact k29) | (with_reducible refine Cells.drew ?_) | (with_reducible refine Cells.up ?_ _) | (with_reducible refine Cells.setFar ?_ (by omega)))) (bc_cons (by repeat (first | (with_reducible exact k39) | (with_reducible refine Cells.drew ?_) | (with_reducible refine Cells.up ?_ _) | (with_reducible refine Cells.setFar ?_ (by omega)))) bc_nil)) ?walk1 ?dep1
          case walk1 =>
            refine walkR_q (by rfl) (fun X hX wq hwq hrq => ?_) ?_
            · obtain ⟨hcq, hfq⟩ := hwq.b2
              clear hrq
              go_simp
              (first | rfl | exact ⟨rfl, rfl⟩)
            refine walkR_q (by rfl) (fun X hX wq hwq hrq => ?_) ?_
            · obtain ⟨hcq, hfq⟩ := hwq.b2
              clear hrq
              go_simp
              (first | rfl | exact ⟨rfl, rfl⟩)
            refine walkR_st (by rfl) (fun X hX wq hwq hkq => ?_) ?_
            · rw [show X 4 = (w.heap.size + 1 + 1) from hX.at0 0 _ rfl] at hkq ⊢
              replace hkq : Cells wq (w.heap.size + 1 + 1) [.int .i64 0, .int .i64 0, .int .i64 0, .int .i64 0] := hkq
              have hks := hkq.1
              have hkz := hkq.2.2
              have hk0 := hkq.cell 0 rfl
              have hk1 := hkq.cell 1 rfl
              have hk2 := hkq.cell 2 rfl
              have hk3 := hkq.cell 3 rfl
              go_simp
              (first | ((with_reducible refine writeB_mk (Cells.set hkq) ?_ ?_); (focus (repeat (first | (with_reducible exact Only.refl _ _) | (with_reducible refine Only.set ?_)))); rfl) | ((with_reducible refine writeB_mk (Cells.set (Cells.set hkq)) ?_ ?_); (focus (repeat (first | (with_reducible exact Only.refl _ _) | (with_reducible refine Only.set ?_)))); rfl) | ((with_reducible refine writeB_mk (Cells.set (Cells.set (Cells.set hkq))) ?_ ?_); (focus (repeat (first | (with_reducible exact Only.refl _ _) | (with_reducible refine Only.set ?_)))); rfl) | ((with_reducible refine writeB_mk (Cells.set (Cells.set (Cells.set (Cells.set hkq)))) ?_ ?_); (focus (repeat (first | (with_reducible exact Only.refl _ _) | (with_reducible refine Only.set ?_)))); rfl) | ((with_reducible refine writeB_mk (Cells.set (Cells.set (Cells.set (Cells.set (Cells.set hkq))))) ?_ ?_); (focus (repeat (first | (with_reducible exact Only.refl _ _) | (with_reducible refine Only.set ?_)))); rfl) | ((with_reducible refine writeB_mk (Cells.set (Cells.set (Cells.set (Cells.set (Cells.set (Cells.set hkq)))))) ?_ ?_); (focus (repeat (first | (with_reducible exact Only.refl _ _) | (with_reducible refine Only.set ?_)))); rfl) | ((with_reducible refine writeB_mk (Cells.set (Cells.set (Cells.set (Cells.set (Cells.set (Cells.set (Cells.set hkq))))))) ?_ ?_); (focus (repeat (first | (with_reducible exact Only.refl _ _) | (with_reducible refine Only.set ?_)))); rfl) | ((with_reducible refine writeB_mk (Cells.set (Cells.set (Cells.set (Cells.set (Cells.set (Cells.set (Cells.set (Cells.set hkq)))))))) ?_ ?_); (focus (repeat (first | (with_reducible exact Only.refl _ _) | (with_reducible refine Only.set ?_)))); rfl))
            refine walkR_st (by rfl) (fun X hX wq hwq hkq => ?_) ?_
            · rw [show X 5 = (w.heap.size + 1 + 1 + 1) from hX.at0 1 _ rfl] at hkq ⊢
              replace hkq : Cells wq (w.heap.size + 1 + 1 + 1) [.int .i64 0, .slice none 0 0] := hkq
              have hks := hkq.1
              have hkz := hkq.2.2
              have hk0 := hkq.cell 0 rfl
              have hk1 := hkq.cell 1 rfl
              go_simp
              (first | ((with_reducible refine writeB_mk (Cells.set hkq) ?_ ?_); (focus (repeat (first | (with_reducible exact Only.refl _ _) | (with_reducible refine Only.set ?_)))); rfl) | ((with_reducible refine writeB_mk (Cells.set (Cells.set hkq)) ?_ ?_); (focus (repeat (first | (with_reducible exact Only.refl _ _) | (with_reducible refine Only.set ?_)))); rfl) | ((with_reducible refine writeB_mk (Cells.set (Cells.set (Cells.set hkq))) ?_ ?_); (focus (repeat (first | (with_reducible exact Only.refl _ _) | (with_reducible refine Only.set ?_)))); rfl) | ((with_reducible refine writeB_mk (Cells.set (Cells.set (Cells.set (Cells.set hkq)))) ?_ ?_); (focus (repeat (first | (with_reducible exact Only.refl _ _) | (with_reducible refine Only.set ?_)))); rfl) | ((with_reducible refine writeB_mk (Cells.set (Cells.set (Cells.set (Cells.set (Cells.set hkq))))) ?_ ?_); (focus (repeat (first | (with_reducible exact Only.refl _ _) | (with_reducible refine Only.set ?_)))); rfl) | ((with_reducible refine writeB_mk (Cells.set (Cells.set (Cells.set (Cells.set (Cells.set (Cells.set hkq)))))) ?_ ?_); (focus (repeat (first | (with_reducible exact Only.refl _ _) | (with_reducible refine Only.set ?_)))); rfl) | ((with_reducible refine writeB_mk (Cells.set (Cells.set (Cells.set (Cells.set (Cells.set (Cells.set (Cells.set hkq))))))) ?_ ?_); (focus (repeat (first | (with_reducible exact Only.refl _ _) | (with_reducible refine Only.set ?_)))); rfl) | ((with_reducible refine writeB_mk (Cells.set (Cells.set (Cells.set (Cells.set (Cells.set (Cells.set (Cells.set (Cells.set hkq)))))))) ?_ ?_); (focus (repeat (first | (with_reducible exact Only.refl _ _) | (with_reducible refine Only.set ?_)))); rfl))
            refine walkR_nil (fun X hX wz hwz hcz => ?_)
            have kz0 := hcz 4 (by simp)
            rw [show X 4 = (w.heap.size + 1 + 1) from hX.at0 0 _ rfl] at kz0
            simp only [updC_some, updC_none, Nat.reduceEqDiff, ↓reduceIte] at kz0
            have kz1 := hcz 5 (by simp)
            rw [show X 5 = (w.heap.size + 1 + 1 + 1) from hX.at0 1 _ rfl] at kz1
            simp only [updC_some, updC_none, Nat.reduceEqDiff, ↓reduceIte] at kz1
            clear hX hcz
            (try clear X)
            repeat (first | ((first | (refine listF_step rfl (fun K' hK => ?_)) | (refine listF_yes rfl rfl (by decide) ?_ (fun K' hK => ?_); (focus (go_simp; done)))); unfold opF; go_simp; (refine hK _ _ ?_); clear hK K') | (refine listF_no (b' := true) rfl rfl (by decide) ?_ ?_ ?_; (focus (go_simp; done)); (focus rfl)) | (refine listF_no (b' := false) rfl rfl (by decide) ?_ ?_ ?_; (focus (go_simp; done)); (focus rfl)) | (refine listF_nu rfl rfl (by decide) ?_ ?_; (focus (go_simp; done))) | (refine listF_nil ?_) | (refine region_F ?_) | (refine cond_F true ?_ ?_; (focus (go_simp; done)); simp only [if_true]) | (refine cond_F false ?_ ?_; (focus (go_simp; done)); simp only [Bool.false_eq_true, if_false]) | (with_reducible go_step))
            refine ret_F (.tuple #[.agg #[.int .i64 5, .int .i64 (-1), .int .i64 q.now, .int .i64 (W.faults[k].at0 + W.faults[k].rep)], .agg #[.int .i64 (W.faults[k].at0 + W.faults[k].rep), .slice (some ⟨g, 0, none⟩) q.jobs.length cap]]) (res_cc (ad := ⟨w.heap.size + 1 + 1, 0, none⟩) (ad2 := ⟨w.heap.size + 1 + 1 + 1, 0, none⟩) Try.results57 ((getD_F (by simp)).trans (by go_simp)) ((getD_F (by simp)).trans (by go_simp)) (load_spell (kz0.cell 0 rfl) (kz0.cell 1 rfl) (kz0.cell 2 rfl) (kz0.cell 3 rfl)) (load_qu (kz1.cell 0 rfl) (kz1.cell 1 rfl))) ?_
            refine ⟨g, cap, by rw [HN.out _ _ _ Hr.out], by omega, ?_, HB9.out.trans (hwz.low (N := w.heap.size) (by omega) (by simp; omega))⟩
            rw [HN.out _ _ _ Hr.out]
            exact Cells.rd (f := St.cs) (m := 5) (fun _ => rfl) (kg9.old hwz (by simp; omega))
          case dep1 =>
            refine depR_cons (fun X X' h => ?_) ?_
            · (first | exact ⟨rfl, rfl⟩)
            refine depR_cons (fun X X' h => ?_) ?_
            · (first | exact ⟨rfl, rfl⟩)
            refine depR_cons (fun X X' h => ?_) ?_
            · (first | exact ⟨rfl, rfl⟩)
            refine depR_cons (fun X X' h => ?_) ?_
            · (first | exact ⟨rfl, rfl⟩)
            exact depR_nil
        case dep2 =>
          refine depR_cons (fun X X' h => ?_) ?_
          · (first | exact ⟨rfl, rfl⟩)
          refine depR_cons (fun X X' h => ?_) ?_
          · (first | exact ⟨rfl, rfl⟩)
          refine depR_cons (fun X X' h => ?_) ?_
          · (first | exact ⟨rfl, rfl⟩)
          refine depR_cons (fun X X' h => ?_) ?_
          · (first | exact ⟨rfl, rfl⟩)
          refine depR_cons (fun X X' h => ?_) ?_
          · (first | exact ⟨rfl, rfl⟩)
          refine depR_cons (fun X X' h => ?_) ?_
          · (first | exact ⟨rfl, rfl⟩)
          refine depR_cons (fun X X' h => ?_) ?_
          · (first | exact ⟨rfl, rfl⟩)
          refine depR_cons (fun X X' h => ?_) ?_
          · (first | exact ⟨rfl, rfl⟩)
          refine depR_cons (fun X X' h => ?_) ?_
          · (first | exact ⟨rfl, rfl⟩)
          exact depR_nil
      · repeat (first | ((first | (refine listF_step rfl (fun K' hK => ?_)) | (refine listF_yes rfl rfl (by decide) ?_ (fun K' hK => ?_); (focus (go_simp; done)))); unfold opF; go_simp; (refine hK _ _ ?_); clear hK K') | (refine listF_no (b' := true) rfl rfl (by decide) ?_ ?_ ?_; (focus (go_simp; done)); (focus rfl)) | (refine listF_no (b' := false) rfl rfl (by decide) ?_ ?_ ?_; (focus (go_simp; done)); (focus rfl)) | (refine listF_nu rfl rfl (by decide) ?_ ?_; (focus (go_simp; done))) | (refine listF_nil ?_) | (refine region_F ?_) | (refine cond_F true ?_ ?_; (focus (go_simp; done)); simp only [if_true]) | (refine cond_F false ?_ ?_; (focus (go_simp; done)); simp only [Bool.false_eq_true, if_false]) | (with_reducible go_step))
        refine ⟨_, _, rfl, ?_, k + 1, rfl, by omega, ⟨(by first | (go_simp; done) | exact sl2 | (simp only [updS_some, updS_none, Nat.reduceEqDiff, ↓reduceIte]; exact sl2)), (by first | (go_simp; done) | exact sl3 | (simp only [updS_some, updS_none, Nat.reduceEqDiff, ↓reduceIte]; exact sl3)), (by first | (go_simp; done) | exact sl4 | (simp only [updS_some, updS_none, Nat.reduceEqDiff, ↓reduceIte]; exact sl4)), (by first | (go_simp; done) | exact sl5 | (simp only [updS_some, updS_none, Nat.reduceEqDiff, ↓reduceIte]; exact sl5)), (by first | (go_simp; done) | exact sl6 | (simp only [updS_some, updS_none, Nat.reduceEqDiff, ↓reduceIte]; exact sl6)), (by first | (go_simp; done) | exact sl7 | (simp only [updS_some, updS_none, Nat.reduceEqDiff, ↓reduceIte]; exact sl7))⟩, by go_simp, (by repeat (first | (with_reducible exact hB) | (with_reducible refine bdrewN ?_ _) | (with_reducible refine Below.drew ?_) | (with_reducible refine Below.setCell ?_ (by first | omega | (simp; done) | (simp; omega)) _) | (with_reducible refine Below.alloc ?_ (by first | omega | (simp; done) | (simp; omega)) _))), hid ?_⟩
        · omega
        · intro j hjl hj
          by_cases hjk : j < k
          · exact hno.out j hjl hjk
          · obtain rfl : j = k := by omega
            rw [t1, t2]; rfl
    · repeat (first | ((first | (refine listF_step rfl (fun K' hK => ?_)) | (refine listF_yes rfl rfl (by decide) ?_ (fun K' hK => ?_); (focus (go_simp; done)))); unfold opF; go_simp; (refine hK _ _ ?_); clear hK K') | (refine listF_no (b' := true) rfl rfl (by decide) ?_ ?_ ?_; (focus (go_simp; done)); (focus rfl)) | (refine listF_no (b' := false) rfl rfl (by decide) ?_ ?_ ?_; (focus (go_simp; done)); (focus rfl)) | (refine listF_nu rfl rfl (by decide) ?_ ?_; (focus (go_simp; done))) | (refine listF_nil ?_) | (refine region_F ?_) | (refine cond_F true ?_ ?_; (focus (go_simp; done)); simp only [if_true]) | (refine cond_F false ?_ ?_; (focus (go_simp; done)); simp only [Bool.false_eq_true, if_false]) | (with_reducible go_step))
      refine ⟨_, _, rfl, ?_, k + 1, rfl, by omega, ⟨(by first | (go_simp; done) | exact sl2 | (simp only [updS_some, updS_none, Nat.reduceEqDiff, ↓reduceIte]; exact sl2)), (by first | (go_simp; done) | exact sl3 | (simp only [updS_some, updS_none, Nat.reduceEqDiff, ↓reduceIte]; exact sl3)), (by first | (go_simp; done) | exact sl4 | (simp only [updS_some, updS_none, Nat.reduceEqDiff, ↓reduceIte]; exact sl4)), (by first | (go_simp; done) | exact sl5 | (simp only [updS_some, updS_none, Nat.reduceEqDiff, ↓reduceIte]; exact sl5)), (by first | (go_simp; done) | exact sl6 | (simp only [updS_some, updS_none, Nat.reduceEqDiff, ↓reduceIte]; exact sl6)), (by first | (go_simp; done) | exact sl7 | (simp only [updS_some, updS_none, Nat.reduceEqDiff, ↓reduceIte]; exact sl7))⟩, by go_simp, (by repeat (first | (with_reducible exact hB) | (with_reducible refine bdrewN ?_ _) | (with_reducible refine Below.drew ?_) | (with_reducible refine Below.setCell ?_ (by first | omega | (simp; done) | (simp; omega)) _) | (with_reducible refine Below.alloc ?_ (by first | omega | (simp; done) | (simp; omega)) _))), hid ?_⟩
      · omega
      · intro j hjl hj
        by_cases hjk : j < k
        · exact hno.out j hjl hjk
        · obtain rfl : j = k := by omega
          rw [t1]; rfl
  · have Hr := hid (show W.repairAt q.now = none from by
      unfold Work.repairAt
      rw [List.find?_eq_none]
      intro f hf0
      obtain ⟨j, hj, rfl⟩ := List.mem_iff_getElem.1 hf0
      rw [hno.out j hj (by omega)]; simp)
    clear HN hno
    repeat (first | ((first | (refine listF_step rfl (fun K' hK => ?_)) | (refine listF_yes rfl rfl (by decide) ?_ (fun K' hK => ?_); (focus (go_simp; done)))); unfold opF; go_simp; (refine hK _ _ ?_); clear hK K') | (refine listF_no (b' := true) rfl rfl (by decide) ?_ ?_ ?_; (focus (go_simp; done)); (focus rfl)) | (refine listF_no (b' := false) rfl rfl (by decide) ?_ ?_ ?_; (focus (go_simp; done)); (focus rfl)) | (refine listF_nu rfl rfl (by decide) ?_ ?_; (focus (go_simp; done))) | (refine listF_nil ?_) | (refine region_F ?_) | (refine cond_F true ?_ ?_; (focus (go_simp; done)); simp only [if_true]) | (refine cond_F false ?_ ?_; (focus (go_simp; done)); simp only [Bool.false_eq_true, if_false]) | (with_reducible go_step))
    (refine wp_abs ?_; intro s' hs'; have gl2 := congrFun hs' 2; simp only [updS_some, updS_none, Nat.reduceEqDiff, ↓reduceIte] at gl2; (try rw [sl2] at gl2); have gl3 := congrFun hs' 3; simp only [updS_some, updS_none, Nat.reduceEqDiff, ↓reduceIte] at gl3; (try rw [sl3] at gl3); have gl4 := congrFun hs' 4; simp only [updS_some, updS_none, Nat.reduceEqDiff, ↓reduceIte] at gl4; (try rw [sl4] at gl4); have gl5 := congrFun hs' 5; simp only [updS_some, updS_none, Nat.reduceEqDiff, ↓reduceIte] at gl5; (try rw [sl5] at gl5); have gl6 := congrFun hs' 6; simp only [updS_some, updS_none, Nat.reduceEqDiff, ↓reduceIte] at gl6; (try rw [sl6] at gl6); have gl7 := congrFun hs' 7; simp only [updS_some, updS_none, Nat.reduceEqDiff, ↓reduceIte] at gl7; (try rw [sl7] at gl7); have gl10 := congrFun hs' 10; simp only [updS_some, updS_none, Nat.reduceEqDiff, ↓reduceIte] at gl10; (try rw [sl10] at gl10); have gl11 := congrFun hs' 11; simp only [updS_some, updS_none, Nat.reduceEqDiff, ↓reduceIte] at gl11; (try rw [sl11] at gl11); clear hs'; (try clear sl2); (try clear sl3); (try clear sl4); (try clear sl5); (try clear sl6); (try clear sl7); (try clear sl10); (try clear sl11); have sl2 := gl2; clear gl2; have sl3 := gl3; clear gl3; have sl4 := gl4; clear gl4; have sl5 := gl5; clear gl5; have sl6 := gl6; clear gl6; have sl7 := gl7; clear gl7; have sl10 := gl10; clear gl10; have sl11 := gl11; clear gl11)
    refine loop_F (n := 245) (fun m s wr => ∃ k : Nat, ∃ n : Int, m = W.faults.length - k ∧ k ≤ W.faults.length ∧ NSl w A s ∧ s 11 = .int .i64 k ∧ s 10 = .int .i64 n ∧ Below wx.heap.size wx wr ∧ Hid (n = nf (W.faults.take k) q.now) ∧ Hid (n < 0 → (W.faults.take k).find? (fun f => decide (q.now < f.at0)) = none)) (k0 := W.faults.length) ⟨0, -1, rfl, Nat.zero_le _, ⟨sl2, sl3, sl4, sl5, sl6, sl7⟩, sl11, sl10, hB, hid rfl, hid (fun _ => rfl)⟩ ?_
    clear sl2 sl3 sl4 sl5 sl6 sl7 sl8 sl10 sl11 hB HBr k0' k1' k2' k3' kA' kS' kg' c06 c10 q0 q1 hlt hk hsr
    rename_i wr0
    rintro m s wr ⟨k, n, rfl, hk, ⟨sl2, sl3, sl4, sl5, sl6, sl7⟩, sl11, sl10, hB, hn, hn0⟩
    have HBr := hid (HBx.out.trans (hB.mono HBx.out.size) : Below w.heap.size w wr)
    have hsr := hB.size
    have k0' := k0.at hB
    have k1' := k1.at hB
    have c05 := k0'.cell 5 rfl
    have c06 := k0'.cell 6 rfl
    have c10 := k1'.cell 0 rfl
    have q0 := k0'.1
    have q1 := k1'.1
    by_cases hlt : k < W.faults.length
    · obtain ⟨b, off, rfl, hb, d1, d2⟩ := RdFaults.ne (HW.out.faults.at HBr.out) hlt
      have x1 : (k : Int) < (W.faults.length : Int) := by omega
      have hwk : IntKind.i64.wrap ((k : Int) + 1) = (k : Int) + 1 := IntWalk.i64_in _ (by omega)
      obtain ⟨⟨z1, z2⟩, _, _⟩ := HK.out.fb hlt
      have Hs := hid (nf_snoc (now := q.now) hlt hn0.out hn.out)
      have Hz := hid z1
      clear z1 z2
      as_aux_lemma =>
      rcases dec_or (q.now < W.faults[k].at0) with t1 | t1
      · have t1' : decide (W.faults[k].at0 > q.now) = true := t1
        rcases dec_or (n < 0) with t2 | t2
        · repeat (first | ((first | (refine listF_step rfl (fun K' hK => ?_)) | (refine listF_yes rfl rfl (by decide) ?_ (fun K' hK => ?_); (focus (go_simp; done)))); unfold opF; go_simp; (refine hK _ _ ?_); clear hK K') | (refine listF_no (b' := true) rfl rfl (by decide) ?_ ?_ ?_; (focus (go_simp; done)); (focus rfl)) | (refine listF_no (b' := false) rfl rfl (by decide) ?_ ?_ ?_; (focus (go_simp; done)); (focus rfl)) | (refine listF_nu rfl rfl (by decide) ?_ ?_; (focus (go_simp; done))) | (refine listF_nil ?_) | (refine region_F ?_) | (refine cond_F true ?_ ?_; (focus (go_simp; done)); simp only [if_true]) | (refine cond_F false ?_ ?_; (focus (go_simp; done)); simp only [Bool.false_eq_true, if_false]) | (with_reducible go_step))
          refine regionQ_F (Below wr.heap.size wr) (by kernel_rfl) (by kernel_rfl) (Below.refl _ _).drew ?_
          repeat (first | (refine listQ_step (v := ?_) rfl ?_ ?_; rotate_left; (focus (intro wq hwq; obtain ⟨hcq, hfq⟩ := bcell hwq; go_simp; (first | rfl | (exact ⟨rfl, rfl⟩) | (fail))))) | (refine listQ_yes (v := ?_) rfl rfl (by decide) ?_ ?_ ?_; rotate_left; (focus (go_simp; done)); (focus (intro wq hwq; obtain ⟨hcq, hfq⟩ := bcell hwq; go_simp; (first | rfl | (exact ⟨rfl, rfl⟩) | (fail))))) | (refine listQ_no (b' := true) rfl rfl (by decide) ?_ ?_ ?_; (focus (go_simp; done)); (focus rfl)) | (refine listQ_no (b' := false) rfl rfl (by decide) ?_ ?_ ?_; (focus (go_simp; done)); (focus rfl)) | (refine listQ_nu rfl rfl (by decide) ?_ ?_; (focus (go_simp; done))) | (refine listQ_nil ?_))
          intro w2 hw2
          obtain ⟨hc2, hf2⟩ := bcell hw2
          repeat (first | ((first | (refine listF_step rfl (fun K' hK => ?_)) | (refine listF_yes rfl rfl (by decide) ?_ (fun K' hK => ?_); (focus (go_simp; done)))); unfold opF; go_simp; (refine hK _ _ ?_); clear hK K') | (refine listF_no (b' := true) rfl rfl (by decide) ?_ ?_ ?_; (focus (go_simp; done)); (focus rfl)) | (refine listF_no (b' := false) rfl rfl (by decide) ?_ ?_ ?_; (focus (go_simp; done)); (focus rfl)) | (refine listF_nu rfl rfl (by decide) ?_ ?_; (focus (go_simp; done))) | (refine listF_nil ?_) | (refine region_F ?_) | (refine cond_F true ?_ ?_; (focus (go_simp; done)); simp only [if_true]) | (refine cond_F false ?_ ?_; (focus (go_simp; done)); simp only [Bool.false_eq_true, if_false]) | (with_reducible go_step))
          have hB2 := hB.trans (hw2.mono hsr)
          refine ⟨_, _, rfl, ?_, k + 1, W.faults[k].at0, rfl, by omega, ⟨(by first | (go_simp; done) | exact sl2 | (simp only [updS_some, updS_none, Nat.reduceEqDiff, ↓reduceIte]; exact sl2)), (by first | (go_simp; done) | exact sl3 | (simp only [updS_some, updS_none, Nat.reduceEqDiff, ↓reduceIte]; exact sl3)), (by first | (go_simp; done) | exact sl4 | (simp only [updS_some, updS_none, Nat.reduceEqDiff, ↓reduceIte]; exact sl4)), (by first | (go_simp; done) | exact sl5 | (simp only [updS_some, updS_none, Nat.reduceEqDiff, ↓reduceIte]; exact sl5)), (by first | (go_simp; done) | exact sl6 | (simp only [updS_some, updS_none, Nat.reduceEqDiff, ↓reduceIte]; exact sl6)), (by first | (go_simp; done) | exact sl7 | (simp only [updS_some, updS_none, Nat.reduceEqDiff, ↓reduceIte]; exact sl7))⟩, by go_simp, by go_simp, (by repeat (first | (with_reducible exact hB2) | (with_reducible refine bdrewN ?_ _) | (with_reducible refine Below.drew ?_) | (with_reducible refine Below.setCell ?_ (by first | omega | (simp; done) | (simp; omega)) _) | (with_reducible refine Below.alloc ?_ (by first | omega | (simp; done) | (simp; omega)) _))), hid (by rw [Hs.out, t1, t2]; rfl), hid (fun h => absurd h (by have := Hz.out; omega))⟩
          omega
        · repeat (first | ((first | (refine listF_step rfl (fun K' hK => ?_)) | (refine listF_yes rfl rfl (by decide) ?_ (fun K' hK => ?_); (focus (go_simp; done)))); unfold opF; go_simp; (refine hK _ _ ?_); clear hK K') | (refine listF_no (b' := true) rfl rfl (by decide) ?_ ?_ ?_; (focus (go_simp; done)); (focus rfl)) | (refine listF_no (b' := false) rfl rfl (by decide) ?_ ?_ ?_; (focus (go_simp; done)); (focus rfl)) | (refine listF_nu rfl rfl (by decide) ?_ ?_; (focus (go_simp; done))) | (refine listF_nil ?_) | (refine region_F ?_) | (refine cond_F true ?_ ?_; (focus (go_simp; done)); simp only [if_true]) | (refine cond_F false ?_ ?_; (focus (go_simp; done)); simp only [Bool.false_eq_true, if_false]) | (with_reducible go_step))
          refine regionQ_F (Below wr.heap.size wr) (by kernel_rfl) (by kernel_rfl) (Below.refl _ _).drew ?_
          repeat (first | (refine listQ_step (v := ?_) rfl ?_ ?_; rotate_left; (focus (intro wq hwq; obtain ⟨hcq, hfq⟩ := bcell hwq; go_simp; (first | rfl | (exact ⟨rfl, rfl⟩) | (fail))))) | (refine listQ_yes (v := ?_) rfl rfl (by decide) ?_ ?_ ?_; rotate_left; (focus (go_simp; done)); (focus (intro wq hwq; obtain ⟨hcq, hfq⟩ := bcell hwq; go_simp; (first | rfl | (exact ⟨rfl, rfl⟩) | (fail))))) | (refine listQ_no (b' := true) rfl rfl (by decide) ?_ ?_ ?_; (focus (go_simp; done)); (focus rfl)) | (refine listQ_no (b' := false) rfl rfl (by decide) ?_ ?_ ?_; (focus (go_simp; done)); (focus rfl)) | (refine listQ_nu rfl rfl (by decide) ?_ ?_; (focus (go_simp; done))) | (refine listQ_nil ?_))
          intro w2 hw2
          obtain ⟨hc2, hf2⟩ := bcell hw2
          repeat (first | ((first | (refine listF_step rfl (fun K' hK => ?_)) | (refine listF_yes rfl rfl (by decide) ?_ (fun K' hK => ?_); (focus (go_simp; done)))); unfold opF; go_simp; (refine hK _ _ ?_); clear hK K') | (refine listF_no (b' := true) rfl rfl (by decide) ?_ ?_ ?_; (focus (go_simp; done)); (focus rfl)) | (refine listF_no (b' := false) rfl rfl (by decide) ?_ ?_ ?_; (focus (go_simp; done)); (focus rfl)) | (refine listF_nu rfl rfl (by decide) ?_ ?_; (focus (go_simp; done))) | (refine listF_nil ?_) | (refine region_F ?_) | (refine cond_F true ?_ ?_; (focus (go_simp; done)); simp only [if_true]) | (refine cond_F false ?_ ?_; (focus (go_simp; done)); simp only [Bool.false_eq_true, if_false]) | (with_reducible go_step))
          have hB2 := hB.trans (hw2.mono hsr)
          refine ⟨_, _, rfl, ?_, k + 1, n, rfl, by omega, ⟨(by first | (go_simp; done) | exact sl2 | (simp only [updS_some, updS_none, Nat.reduceEqDiff, ↓reduceIte]; exact sl2)), (by first | (go_simp; done) | exact sl3 | (simp only [updS_some, updS_none, Nat.reduceEqDiff, ↓reduceIte]; exact sl3)), (by first | (go_simp; done) | exact sl4 | (simp only [updS_some, updS_none, Nat.reduceEqDiff, ↓reduceIte]; exact sl4)), (by first | (go_simp; done) | exact sl5 | (simp only [updS_some, updS_none, Nat.reduceEqDiff, ↓reduceIte]; exact sl5)), (by first | (go_simp; done) | exact sl6 | (simp only [updS_some, updS_none, Nat.reduceEqDiff, ↓reduceIte]; exact sl6)), (by first | (go_simp; done) | exact sl7 | (simp only [updS_some, updS_none, Nat.reduceEqDiff, ↓reduceIte]; exact sl7))⟩, by go_simp, (by first | (go_simp; done) | exact sl10 | (simp only [updS_some, updS_none, Nat.reduceEqDiff, ↓reduceIte]; exact sl10)), (by repeat (first | (with_reducible exact hB2) | (with_reducible refine bdrewN ?_ _) | (with_reducible refine Below.drew ?_) | (with_reducible refine Below.setCell ?_ (by first | omega | (simp; done) | (simp; omega)) _) | (with_reducible refine Below.alloc ?_ (by first | omega | (simp; done) | (simp; omega)) _))), hid (by rw [Hs.out, t2]; simp), hid (fun h => absurd h (by simpa using t2))⟩
          omega
      · repeat (first | ((first | (refine listF_step rfl (fun K' hK => ?_)) | (refine listF_yes rfl rfl (by decide) ?_ (fun K' hK => ?_); (focus (go_simp; done)))); unfold opF; go_simp; (refine hK _ _ ?_); clear hK K') | (refine listF_no (b' := true) rfl rfl (by decide) ?_ ?_ ?_; (focus (go_simp; done)); (focus rfl)) | (refine listF_no (b' := false) rfl rfl (by decide) ?_ ?_ ?_; (focus (go_simp; done)); (focus rfl)) | (refine listF_nu rfl rfl (by decide) ?_ ?_; (focus (go_simp; done))) | (refine listF_nil ?_) | (refine region_F ?_) | (refine cond_F true ?_ ?_; (focus (go_simp; done)); simp only [if_true]) | (refine cond_F false ?_ ?_; (focus (go_simp; done)); simp only [Bool.false_eq_true, if_false]) | (with_reducible go_step))
        refine regionQ_F (Below wr.heap.size wr) (by kernel_rfl) (by kernel_rfl) (Below.refl _ _).drew ?_
        repeat (first | (refine listQ_step (v := ?_) rfl ?_ ?_; rotate_left; (focus (intro wq hwq; obtain ⟨hcq, hfq⟩ := bcell hwq; go_simp; (first | rfl | (exact ⟨rfl, rfl⟩) | (fail))))) | (refine listQ_yes (v := ?_) rfl rfl (by decide) ?_ ?_ ?_; rotate_left; (focus (go_simp; done)); (focus (intro wq hwq; obtain ⟨hcq, hfq⟩ := bcell hwq; go_simp; (first | rfl | (exact ⟨rfl, rfl⟩) | (fail))))) | (refine listQ_no (b' := true) rfl rfl (by decide) ?_ ?_ ?_; (focus (go_simp; done)); (focus rfl)) | (refine listQ_no (b' := false) rfl rfl (by decide) ?_ ?_ ?_; (focus (go_simp; done)); (focus rfl)) | (refine listQ_nu rfl rfl (by decide) ?_ ?_; (focus (go_simp; done))) | (refine listQ_nil ?_))
        intro w2 hw2
        obtain ⟨hc2, hf2⟩ := bcell hw2
        repeat (first | ((first | (refine listF_step rfl (fun K' hK => ?_)) | (refine listF_yes rfl rfl (by decide) ?_ (fun K' hK => ?_); (focus (go_simp; done)))); unfold opF; go_simp; (refine hK _ _ ?_); clear hK K') | (refine listF_no (b' := true) rfl rfl (by decide) ?_ ?_ ?_; (focus (go_simp; done)); (focus rfl)) | (refine listF_no (b' := false) rfl rfl (by decide) ?_ ?_ ?_; (focus (go_simp; done)); (focus rfl)) | (refine listF_nu rfl rfl (by decide) ?_ ?_; (focus (go_simp; done))) | (refine listF_nil ?_) | (refine region_F ?_) | (refine cond_F true ?_ ?_; (focus (go_simp; done)); simp only [if_true]) | (refine cond_F false ?_ ?_; (focus (go_simp; done)); simp only [Bool.false_eq_true, if_false]) | (with_reducible go_step))
        have hB2 := hB.trans (hw2.mono hsr)
        refine ⟨_, _, rfl, ?_, k + 1, n, rfl, by omega, ⟨(by first | (go_simp; done) | exact sl2 | (simp only [updS_some, updS_none, Nat.reduceEqDiff, ↓reduceIte]; exact sl2)), (by first | (go_simp; done) | exact sl3 | (simp only [updS_some, updS_none, Nat.reduceEqDiff, ↓reduceIte]; exact sl3)), (by first | (go_simp; done) | exact sl4 | (simp only [updS_some, updS_none, Nat.reduceEqDiff, ↓reduceIte]; exact sl4)), (by first | (go_simp; done) | exact sl5 | (simp only [updS_some, updS_none, Nat.reduceEqDiff, ↓reduceIte]; exact sl5)), (by first | (go_simp; done) | exact sl6 | (simp only [updS_some, updS_none, Nat.reduceEqDiff, ↓reduceIte]; exact sl6)), (by first | (go_simp; done) | exact sl7 | (simp only [updS_some, updS_none, Nat.reduceEqDiff, ↓reduceIte]; exact sl7))⟩, by go_simp, (by first | (go_simp; done) | exact sl10 | (simp only [updS_some, updS_none, Nat.reduceEqDiff, ↓reduceIte]; exact sl10)), (by repeat (first | (with_reducible exact hB2) | (with_reducible refine bdrewN ?_ _) | (with_reducible refine Below.drew ?_) | (with_reducible refine Below.setCell ?_ (by first | omega | (simp; done) | (simp; omega)) _) | (with_reducible refine Below.alloc ?_ (by first | omega | (simp; done) | (simp; omega)) _))), hid (by rw [Hs.out, t1]; simp), hid ?_⟩
        · omega
        · intro h
          rw [List.take_succ_eq_append_getElem hlt, List.find?_append, hn0.out h]
          simp [t1]
    · have hnf : n = W.nextFault q.now := by
        have := hn.out
        rw [List.take_of_length_le (by omega)] at this
        exact this
      have Hnf := hid hnf
      clear hnf hn hn0
      have c00 := k0'.cell 0 rfl
      have c01 := k0'.cell 1 rfl
      have c02 := k0'.cell 2 rfl
      have c03 := k0'.cell 3 rfl
      have c04 := k0'.cell 4 rfl
      have c11 := k1'.cell 1 rfl
      repeat (first | ((first | (refine listF_step rfl (fun K' hK => ?_)) | (refine listF_yes rfl rfl (by decide) ?_ (fun K' hK => ?_); (focus (go_simp; done)))); unfold opF; go_simp; (refine hK _ _ ?_); clear hK K') | (refine listF_no (b' := true) rfl rfl (by decide) ?_ ?_ ?_; (focus (go_simp; done)); (focus rfl)) | (refine listF_no (b' := false) rfl rfl (by decide) ?_ ?_ ?_; (focus (go_simp; done)); (focus rfl)) | (refine listF_nu rfl rfl (by decide) ?_ ?_; (focus (go_simp; done))) | (refine listF_nil ?_) | (refine region_F ?_) | (refine cond_F true ?_ ?_; (focus (go_simp; done)); simp only [if_true]) | (refine cond_F false ?_ ?_; (focus (go_simp; done)); simp only [Bool.false_eq_true, if_false]) | (with_reducible go_step))
      (refine listF_step rfl (fun K' hK => ?_); unfold opF; go_simp; refine (rtaken_any W q aj af _ cj cf cq _ (HW.out.at HBr.out) (Rd.at Hq.out HBr.out) HK.out HQ.out).mono ?_; rintro e w6 ⟨rfl, hb6⟩; refine ⟨_, rfl, hK _ _ ?_⟩; clear hK K')
      have hB6 : Below wx.heap.size wx w6 := hB.trans (hb6.mono hsr)
      have HB6 := hid (HBx.out.trans (hB6.mono HBx.out.size) : Below w.heap.size w w6)
      have hs6 := hB6.size
      clear hB hb6 HBr c00 c01 c02 c03 c04 c05 c06 c10 c11 k0' k1' q0 q1 hsr
      replace k0 := k0.at hB6
      replace k1 := k1.at hB6
      replace k2 := k2.at hB6
      replace k3 := k3.at hB6
      replace kA := kA.at hB6
      replace kS := kS.at hB6
      replace kg := kg.at hB6
      rcases taken_range W q q.jobs.length with hr | ⟨m, hm, hr⟩
      · have Hnext := hid (show nextStep W q = (⟨6, -1, q.now, idleUpto W q q.jobs.length⟩, ⟨idleUpto W q q.jobs.length, q.jobs⟩) from by
          unfold nextStep; rw [Hr.out]; simp [hr])
        as_aux_lemma =>
        rw [hr]
        clear hr
        have cS0 := kS.cell 0 rfl
        have cS3 := kS.cell 3 rfl
        have cSz := kS.2.2
        repeat (first | ((first | (refine listF_step rfl (fun K' hK => ?_)) | (refine listF_yes rfl rfl (by decide) ?_ (fun K' hK => ?_); (focus (go_simp; done)))); unfold opF; go_simp; (refine hK _ _ ?_); clear hK K') | (refine listF_no (b' := true) rfl rfl (by decide) ?_ ?_ ?_; (focus (go_simp; done)); (focus rfl)) | (refine listF_no (b' := false) rfl rfl (by decide) ?_ ?_ ?_; (focus (go_simp; done)); (focus rfl)) | (refine listF_nu rfl rfl (by decide) ?_ ?_; (focus (go_simp; done))) | (refine listF_nil ?_) | (refine region_F ?_) | (refine cond_F true ?_ ?_; (focus (go_simp; done)); simp only [if_true]) | (refine cond_F false ?_ ?_; (focus (go_simp; done)); simp only [Bool.false_eq_true, if_false]) | (with_reducible go_step))
        clear cS0 cS3 cSz
        refine wp_absw ?_
        intro wy hwy
        have kS1 : Cells wy (A + 1) [.int .i64 6, .int .i64 (-1), .int .i64 q.now, .int .i64 n] := by rw [hwy]; exact (by apply Cells.conv; (focus (repeat (first | (with_reducible exact kS) | (with_reducible apply Cells.set) | ((with_reducible apply Cells.setFar); case hn => omega) | (with_reducible apply Cells.up) | (with_reducible apply Cells.drew)))); rfl)
        have hB7 : Below (A + 1) wx wy := by
          have := hB6.mono (show A + 1 ≤ wx.heap.size by omega)
          rw [hwy]; exact (by repeat (first | (with_reducible exact this) | (with_reducible refine bdrewN ?_ _) | (with_reducible refine Below.drew ?_) | (with_reducible refine Below.setCell ?_ (by first | omega | (simp; done) | (simp; omega)) _) | (with_reducible refine Below.alloc ?_ (by first | omega | (simp; done) | (simp; omega)) _)))
        have hs7 : wy.heap.size = w6.heap.size := by rw [hwy]; simp
        replace k0 := k0.low (w' := wy) (N := A + 1) (by rw [hwy]; exact (by repeat (first | (with_reducible exact Below.refl _ _) | (with_reducible refine bdrewN ?_ _) | (with_reducible refine Below.drew ?_) | (with_reducible refine Below.setCell ?_ (by first | omega | (simp; done) | (simp; omega)) _) | (with_reducible refine Below.alloc ?_ (by first | omega | (simp; done) | (simp; omega)) _)))) (by omega)
        replace k1 := k1.low (w' := wy) (N := A + 1) (by rw [hwy]; exact (by repeat (first | (with_reducible exact Below.refl _ _) | (with_reducible refine bdrewN ?_ _) | (with_reducible refine Below.drew ?_) | (with_reducible refine Below.setCell ?_ (by first | omega | (simp; done) | (simp; omega)) _) | (with_reducible refine Below.alloc ?_ (by first | omega | (simp; done) | (simp; omega)) _)))) (by omega)
        replace k2 := k2.low (w' := wy) (N := A + 1) (by rw [hwy]; exact (by repeat (first | (with_reducible exact Below.refl _ _) | (with_reducible refine bdrewN ?_ _) | (with_reducible refine Below.drew ?_) | (with_reducible refine Below.setCell ?_ (by first | omega | (simp; done) | (simp; omega)) _) | (with_reducible refine Below.alloc ?_ (by first | omega | (simp; done) | (simp; omega)) _)))) (by omega)
        replace k3 := k3.low (w' := wy) (N := A + 1) (by rw [hwy]; exact (by repeat (first | (with_reducible exact Below.refl _ _) | (with_reducible refine bdrewN ?_ _) | (with_reducible refine Below.drew ?_) | (with_reducible refine Below.setCell ?_ (by first | omega | (simp; done) | (simp; omega)) _) | (with_reducible refine Below.alloc ?_ (by first | omega | (simp; done) | (simp; omega)) _)))) (by omega)
        replace kA := kA.low (w' := wy) (N := A + 1) (by rw [hwy]; exact (by repeat (first | (with_reducible exact Below.refl _ _) | (with_reducible refine bdrewN ?_ _) | (with_reducible refine Below.drew ?_) | (with_reducible refine Below.setCell ?_ (by first | omega | (simp; done) | (simp; omega)) _) | (with_reducible refine Below.alloc ?_ (by first | omega | (simp; done) | (simp; omega)) _)))) (by omega)
        replace kg := kg.low (w' := wy) (N := A + 1) (by rw [hwy]; exact (by repeat (first | (with_reducible exact Below.refl _ _) | (with_reducible refine bdrewN ?_ _) | (with_reducible refine Below.drew ?_) | (with_reducible refine Below.setCell ?_ (by first | omega | (simp; done) | (simp; omega)) _) | (with_reducible refine Below.alloc ?_ (by first | omega | (simp; done) | (simp; omega)) _)))) (by omega)
        have HB7 := hid (HBx.out.trans (hB7.mono (by omega)) : Below w.heap.size w wy)
        have hs8 : A + 1 < wy.heap.size := kS1.1
        clear hwy hB6 HB6 kS
        (refine wp_abs ?_; intro s' hs'; have gl2 := congrFun hs' 2; simp only [updS_some, updS_none, Nat.reduceEqDiff, ↓reduceIte] at gl2; (try rw [sl2] at gl2); have gl3 := congrFun hs' 3; simp only [updS_some, updS_none, Nat.reduceEqDiff, ↓reduceIte] at gl3; (try rw [sl3] at gl3); have gl4 := congrFun hs' 4; simp only [updS_some, updS_none, Nat.reduceEqDiff, ↓reduceIte] at gl4; (try rw [sl4] at gl4); have gl5 := congrFun hs' 5; simp only [updS_some, updS_none, Nat.reduceEqDiff, ↓reduceIte] at gl5; (try rw [sl5] at gl5); have gl6 := congrFun hs' 6; simp only [updS_some, updS_none, Nat.reduceEqDiff, ↓reduceIte] at gl6; (try rw [sl6] at gl6); have gl7 := congrFun hs' 7; simp only [updS_some, updS_none, Nat.reduceEqDiff, ↓reduceIte] at gl7; (try rw [sl7] at gl7); have gl13 := congrFun hs' 13; simp only [updS_some, updS_none, Nat.reduceEqDiff, ↓reduceIte] at gl13; (try rw [sl13] at gl13); clear hs'; (try clear sl2); (try clear sl3); (try clear sl4); (try clear sl5); (try clear sl6); (try clear sl7); (try clear sl13); have sl2 := gl2; clear gl2; have sl3 := gl3; clear gl3; have sl4 := gl4; clear gl4; have sl5 := gl5; clear gl5; have sl6 := gl6; clear gl6; have sl7 := gl7; clear gl7; have sl13 := gl13; clear gl13)
        refine loop_F (n := 245) (fun m s wr => ∃ k : Nat, ∃ u : Int, m = q.jobs.length - k ∧ k ≤ q.jobs.length ∧ NSl w A s ∧ s 13 = .int .i64 k ∧ Cells wr (A + 1) [.int .i64 6, .int .i64 (-1), .int .i64 q.now, .int .i64 u] ∧ Below (A + 1) wy wr ∧ Hid (u = idleUpto W q k)) (k0 := q.jobs.length) ⟨0, n, rfl, Nat.zero_le _, ⟨sl2, sl3, sl4, sl5, sl6, sl7⟩, sl13, kS1, Below.refl _ _, hid Hnf.out⟩ ?_
        clear sl2 sl3 sl4 sl5 sl6 sl7 sl10 sl11 sl13 kS1
        rintro m s wr ⟨k, u, rfl, hk, ⟨sl2, sl3, sl4, sl5, sl6, sl7⟩, sl13, kS1, hB, hu⟩
        have HBr := hid (HB7.out.trans (hB.mono (by omega)) : Below w.heap.size w wr)
        have hsr := hB.size
        have k0' := k0.low hB (by omega)
        have k1' := k1.low hB (by omega)
        have c05 := k0'.cell 5 rfl
        have c10 := k1'.cell 0 rfl
        have c11 := k1'.cell 1 rfl
        have q0 := k0'.1
        have q1 := k1'.1
        have cS3 := kS1.cell 3 rfl
        have cSz := kS1.2.2
        have cSs := kS1.1
        by_cases hlt2 : k < q.jobs.length
        · have hlt2' : k < W.jobs.length := by have := HQ.out.len; omega
          obtain ⟨bj, oj, rfl, hbj, d1, d2, d3, d4⟩ := RdJobs.ne (HW.out.jobs.at HBr.out) hlt2'
          obtain ⟨o2, e1, e2, e3, e4, e5⟩ := RdSts.get (Rd.at Hq.out HBr.out) hlt2
          have x1 : (k : Int) < (q.jobs.length : Int) := by omega
          have x2 : (k : Int) < (W.jobs.length : Int) := by omega
          have hwk : IntKind.i64.wrap ((k : Int) + 1) = (k : Int) + 1 := IntWalk.i64_in _ (by omega)
          have Hst := hid (idle_succ (W := W) (q := q) hlt2 hlt2')
          rw [← hu.out] at Hst
          rcases beq_or q.jobs[k].why 0 with t1 | t1
          · rcases dec_or (u < 0) with t2 | t2
            · repeat (first | ((first | (refine listF_step rfl (fun K' hK => ?_)) | (refine listF_yes rfl rfl (by decide) ?_ (fun K' hK => ?_); (focus (go_simp; done)))); unfold opF; go_simp; (refine hK _ _ ?_); clear hK K') | (refine listF_no (b' := true) rfl rfl (by decide) ?_ ?_ ?_; (focus (go_simp; done)); (focus rfl)) | (refine listF_no (b' := false) rfl rfl (by decide) ?_ ?_ ?_; (focus (go_simp; done)); (focus rfl)) | (refine listF_nu rfl rfl (by decide) ?_ ?_; (focus (go_simp; done))) | (refine listF_nil ?_) | (refine region_F ?_) | (refine cond_F true ?_ ?_; (focus (go_simp; done)); simp only [if_true]) | (refine cond_F false ?_ ?_; (focus (go_simp; done)); simp only [Bool.false_eq_true, if_false]) | (with_reducible go_step))
              refine regionQ_F (Below wr.heap.size wr) (by kernel_rfl) (by kernel_rfl) (Below.refl _ _).drew ?_
              repeat (first | (refine listQ_step (v := ?_) rfl ?_ ?_; rotate_left; (focus (intro wq hwq; obtain ⟨hcq, hfq⟩ := bcell hwq; go_simp; (first | rfl | (exact ⟨rfl, rfl⟩) | (fail))))) | (refine listQ_yes (v := ?_) rfl rfl (by decide) ?_ ?_ ?_; rotate_left; (focus (go_simp; done)); (focus (intro wq hwq; obtain ⟨hcq, hfq⟩ := bcell hwq; go_simp; (first | rfl | (exact ⟨rfl, rfl⟩) | (fail))))) | (refine listQ_no (b' := true) rfl rfl (by decide) ?_ ?_ ?_; (focus (go_simp; done)); (focus rfl)) | (refine listQ_no (b' := false) rfl rfl (by decide) ?_ ?_ ?_; (focus (go_simp; done)); (focus rfl)) | (refine listQ_nu rfl rfl (by decide) ?_ ?_; (focus (go_simp; done))) | (refine listQ_nil ?_))
              intro w2 hw2
              obtain ⟨hc2, hf2⟩ := bcell hw2
              have hws := hw2.size
              have kS2 := kS1.at hw2
              repeat (first | ((first | (refine listF_step rfl (fun K' hK => ?_)) | (refine listF_yes rfl rfl (by decide) ?_ (fun K' hK => ?_); (focus (go_simp; done)))); unfold opF; go_simp; (refine hK _ _ ?_); clear hK K') | (refine listF_no (b' := true) rfl rfl (by decide) ?_ ?_ ?_; (focus (go_simp; done)); (focus rfl)) | (refine listF_no (b' := false) rfl rfl (by decide) ?_ ?_ ?_; (focus (go_simp; done)); (focus rfl)) | (refine listF_nu rfl rfl (by decide) ?_ ?_; (focus (go_simp; done))) | (refine listF_nil ?_) | (refine region_F ?_) | (refine cond_F true ?_ ?_; (focus (go_simp; done)); simp only [if_true]) | (refine cond_F false ?_ ?_; (focus (go_simp; done)); simp only [Bool.false_eq_true, if_false]) | (with_reducible go_step))
              have hB2 := hB.trans (hw2.mono (show A + 1 ≤ wr.heap.size by omega))
              refine ⟨_, _, rfl, ?_, k + 1, W.jobs[k].arrive, rfl, by omega, ⟨(by first | (go_simp; done) | exact sl2 | (simp only [updS_some, updS_none, Nat.reduceEqDiff, ↓reduceIte]; exact sl2)), (by first | (go_simp; done) | exact sl3 | (simp only [updS_some, updS_none, Nat.reduceEqDiff, ↓reduceIte]; exact sl3)), (by first | (go_simp; done) | exact sl4 | (simp only [updS_some, updS_none, Nat.reduceEqDiff, ↓reduceIte]; exact sl4)), (by first | (go_simp; done) | exact sl5 | (simp only [updS_some, updS_none, Nat.reduceEqDiff, ↓reduceIte]; exact sl5)), (by first | (go_simp; done) | exact sl6 | (simp only [updS_some, updS_none, Nat.reduceEqDiff, ↓reduceIte]; exact sl6)), (by first | (go_simp; done) | exact sl7 | (simp only [updS_some, updS_none, Nat.reduceEqDiff, ↓reduceIte]; exact sl7))⟩, by go_simp, (by apply Cells.conv; (focus (repeat (first | (with_reducible exact kS2) | (with_reducible apply Cells.set) | ((with_reducible apply Cells.setFar); case hn => omega) | (with_reducible apply Cells.up) | (with_reducible apply Cells.drew)))); rfl), (by repeat (first | (with_reducible exact hB2) | (with_reducible refine bdrewN ?_ _) | (with_reducible refine Below.drew ?_) | (with_reducible refine Below.setCell ?_ (by first | omega | (simp; done) | (simp; omega)) _) | (with_reducible refine Below.alloc ?_ (by first | omega | (simp; done) | (simp; omega)) _))), hid (by rw [Hst.out, t1, t2]; rfl)⟩
              omega
            · rcases dec_or (W.jobs[k].arrive < u) with t3 | t3
              · repeat (first | ((first | (refine listF_step rfl (fun K' hK => ?_)) | (refine listF_yes rfl rfl (by decide) ?_ (fun K' hK => ?_); (focus (go_simp; done)))); unfold opF; go_simp; (refine hK _ _ ?_); clear hK K') | (refine listF_no (b' := true) rfl rfl (by decide) ?_ ?_ ?_; (focus (go_simp; done)); (focus rfl)) | (refine listF_no (b' := false) rfl rfl (by decide) ?_ ?_ ?_; (focus (go_simp; done)); (focus rfl)) | (refine listF_nu rfl rfl (by decide) ?_ ?_; (focus (go_simp; done))) | (refine listF_nil ?_) | (refine region_F ?_) | (refine cond_F true ?_ ?_; (focus (go_simp; done)); simp only [if_true]) | (refine cond_F false ?_ ?_; (focus (go_simp; done)); simp only [Bool.false_eq_true, if_false]) | (with_reducible go_step))
                refine regionQ_F (Below wr.heap.size wr) (by kernel_rfl) (by kernel_rfl) (Below.refl _ _).drew ?_
                repeat (first | (refine listQ_step (v := ?_) rfl ?_ ?_; rotate_left; (focus (intro wq hwq; obtain ⟨hcq, hfq⟩ := bcell hwq; go_simp; (first | rfl | (exact ⟨rfl, rfl⟩) | (fail))))) | (refine listQ_yes (v := ?_) rfl rfl (by decide) ?_ ?_ ?_; rotate_left; (focus (go_simp; done)); (focus (intro wq hwq; obtain ⟨hcq, hfq⟩ := bcell hwq; go_simp; (first | rfl | (exact ⟨rfl, rfl⟩) | (fail))))) | (refine listQ_no (b' := true) rfl rfl (by decide) ?_ ?_ ?_; (focus (go_simp; done)); (focus rfl)) | (refine listQ_no (b' := false) rfl rfl (by decide) ?_ ?_ ?_; (focus (go_simp; done)); (focus rfl)) | (refine listQ_nu rfl rfl (by decide) ?_ ?_; (focus (go_simp; done))) | (refine listQ_nil ?_))
                intro w2 hw2
                obtain ⟨hc2, hf2⟩ := bcell hw2
                have hws := hw2.size
                have kS2 := kS1.at hw2
                repeat (first | ((first | (refine listF_step rfl (fun K' hK => ?_)) | (refine listF_yes rfl rfl (by decide) ?_ (fun K' hK => ?_); (focus (go_simp; done)))); unfold opF; go_simp; (refine hK _ _ ?_); clear hK K') | (refine listF_no (b' := true) rfl rfl (by decide) ?_ ?_ ?_; (focus (go_simp; done)); (focus rfl)) | (refine listF_no (b' := false) rfl rfl (by decide) ?_ ?_ ?_; (focus (go_simp; done)); (focus rfl)) | (refine listF_nu rfl rfl (by decide) ?_ ?_; (focus (go_simp; done))) | (refine listF_nil ?_) | (refine region_F ?_) | (refine cond_F true ?_ ?_; (focus (go_simp; done)); simp only [if_true]) | (refine cond_F false ?_ ?_; (focus (go_simp; done)); simp only [Bool.false_eq_true, if_false]) | (with_reducible go_step))
                have hB2 := hB.trans (hw2.mono (show A + 1 ≤ wr.heap.size by omega))
                refine ⟨_, _, rfl, ?_, k + 1, W.jobs[k].arrive, rfl, by omega, ⟨(by first | (go_simp; done) | exact sl2 | (simp only [updS_some, updS_none, Nat.reduceEqDiff, ↓reduceIte]; exact sl2)), (by first | (go_simp; done) | exact sl3 | (simp only [updS_some, updS_none, Nat.reduceEqDiff, ↓reduceIte]; exact sl3)), (by first | (go_simp; done) | exact sl4 | (simp only [updS_some, updS_none, Nat.reduceEqDiff, ↓reduceIte]; exact sl4)), (by first | (go_simp; done) | exact sl5 | (simp only [updS_some, updS_none, Nat.reduceEqDiff, ↓reduceIte]; exact sl5)), (by first | (go_simp; done) | exact sl6 | (simp only [updS_some, updS_none, Nat.reduceEqDiff, ↓reduceIte]; exact sl6)), (by first | (go_simp; done) | exact sl7 | (simp only [updS_some, updS_none, Nat.reduceEqDiff, ↓reduceIte]; exact sl7))⟩, by go_simp, (by apply Cells.conv; (focus (repeat (first | (with_reducible exact kS2) | (with_reducible apply Cells.set) | ((with_reducible apply Cells.setFar); case hn => omega) | (with_reducible apply Cells.up) | (with_reducible apply Cells.drew)))); rfl), (by repeat (first | (with_reducible exact hB2) | (with_reducible refine bdrewN ?_ _) | (with_reducible refine Below.drew ?_) | (with_reducible refine Below.setCell ?_ (by first | omega | (simp; done) | (simp; omega)) _) | (with_reducible refine Below.alloc ?_ (by first | omega | (simp; done) | (simp; omega)) _))), hid (by rw [Hst.out, t1, t3]; simp)⟩
                omega
              · repeat (first | ((first | (refine listF_step rfl (fun K' hK => ?_)) | (refine listF_yes rfl rfl (by decide) ?_ (fun K' hK => ?_); (focus (go_simp; done)))); unfold opF; go_simp; (refine hK _ _ ?_); clear hK K') | (refine listF_no (b' := true) rfl rfl (by decide) ?_ ?_ ?_; (focus (go_simp; done)); (focus rfl)) | (refine listF_no (b' := false) rfl rfl (by decide) ?_ ?_ ?_; (focus (go_simp; done)); (focus rfl)) | (refine listF_nu rfl rfl (by decide) ?_ ?_; (focus (go_simp; done))) | (refine listF_nil ?_) | (refine region_F ?_) | (refine cond_F true ?_ ?_; (focus (go_simp; done)); simp only [if_true]) | (refine cond_F false ?_ ?_; (focus (go_simp; done)); simp only [Bool.false_eq_true, if_false]) | (with_reducible go_step))
                refine regionQ_F (Below wr.heap.size wr) (by kernel_rfl) (by kernel_rfl) (Below.refl _ _).drew ?_
                repeat (first | (refine listQ_step (v := ?_) rfl ?_ ?_; rotate_left; (focus (intro wq hwq; obtain ⟨hcq, hfq⟩ := bcell hwq; go_simp; (first | rfl | (exact ⟨rfl, rfl⟩) | (fail))))) | (refine listQ_yes (v := ?_) rfl rfl (by decide) ?_ ?_ ?_; rotate_left; (focus (go_simp; done)); (focus (intro wq hwq; obtain ⟨hcq, hfq⟩ := bcell hwq; go_simp; (first | rfl | (exact ⟨rfl, rfl⟩) | (fail))))) | (refine listQ_no (b' := true) rfl rfl (by decide) ?_ ?_ ?_; (focus (go_simp; done)); (focus rfl)) | (refine listQ_no (b' := false) rfl rfl (by decide) ?_ ?_ ?_; (focus (go_simp; done)); (focus rfl)) | (refine listQ_nu rfl rfl (by decide) ?_ ?_; (focus (go_simp; done))) | (refine listQ_nil ?_))
                intro w2 hw2
                obtain ⟨hc2, hf2⟩ := bcell hw2
                have hws := hw2.size
                have kS2 := kS1.at hw2
                repeat (first | ((first | (refine listF_step rfl (fun K' hK => ?_)) | (refine listF_yes rfl rfl (by decide) ?_ (fun K' hK => ?_); (focus (go_simp; done)))); unfold opF; go_simp; (refine hK _ _ ?_); clear hK K') | (refine listF_no (b' := true) rfl rfl (by decide) ?_ ?_ ?_; (focus (go_simp; done)); (focus rfl)) | (refine listF_no (b' := false) rfl rfl (by decide) ?_ ?_ ?_; (focus (go_simp; done)); (focus rfl)) | (refine listF_nu rfl rfl (by decide) ?_ ?_; (focus (go_simp; done))) | (refine listF_nil ?_) | (refine region_F ?_) | (refine cond_F true ?_ ?_; (focus (go_simp; done)); simp only [if_true]) | (refine cond_F false ?_ ?_; (focus (go_simp; done)); simp only [Bool.false_eq_true, if_false]) | (with_reducible go_step))
                have hB2 := hB.trans (hw2.mono (show A + 1 ≤ wr.heap.size by omega))
                refine ⟨_, _, rfl, ?_, k + 1, u, rfl, by omega, ⟨(by first | (go_simp; done) | exact sl2 | (simp only [updS_some, updS_none, Nat.reduceEqDiff, ↓reduceIte]; exact sl2)), (by first | (go_simp; done) | exact sl3 | (simp only [updS_some, updS_none, Nat.reduceEqDiff, ↓reduceIte]; exact sl3)), (by first | (go_simp; done) | exact sl4 | (simp only [updS_some, updS_none, Nat.reduceEqDiff, ↓reduceIte]; exact sl4)), (by first | (go_simp; done) | exact sl5 | (simp only [updS_some, updS_none, Nat.reduceEqDiff, ↓reduceIte]; exact sl5)), (by first | (go_simp; done) | exact sl6 | (simp only [updS_some, updS_none, Nat.reduceEqDiff, ↓reduceIte]; exact sl6)), (by first | (go_simp; done) | exact sl7 | (simp only [updS_some, updS_none, Nat.reduceEqDiff, ↓reduceIte]; exact sl7))⟩, by go_simp, (by apply Cells.conv; (focus (repeat (first | (with_reducible exact kS2) | (with_reducible apply Cells.set) | ((with_reducible apply Cells.setFar); case hn => omega) | (with_reducible apply Cells.up) | (with_reducible apply Cells.drew)))); rfl), (by repeat (first | (with_reducible exact hB2) | (with_reducible refine bdrewN ?_ _) | (with_reducible refine Below.drew ?_) | (with_reducible refine Below.setCell ?_ (by first | omega | (simp; done) | (simp; omega)) _) | (with_reducible refine Below.alloc ?_ (by first | omega | (simp; done) | (simp; omega)) _))), hid (by rw [Hst.out, t2, t3]; simp)⟩
                omega
          · repeat (first | ((first | (refine listF_step rfl (fun K' hK => ?_)) | (refine listF_yes rfl rfl (by decide) ?_ (fun K' hK => ?_); (focus (go_simp; done)))); unfold opF; go_simp; (refine hK _ _ ?_); clear hK K') | (refine listF_no (b' := true) rfl rfl (by decide) ?_ ?_ ?_; (focus (go_simp; done)); (focus rfl)) | (refine listF_no (b' := false) rfl rfl (by decide) ?_ ?_ ?_; (focus (go_simp; done)); (focus rfl)) | (refine listF_nu rfl rfl (by decide) ?_ ?_; (focus (go_simp; done))) | (refine listF_nil ?_) | (refine region_F ?_) | (refine cond_F true ?_ ?_; (focus (go_simp; done)); simp only [if_true]) | (refine cond_F false ?_ ?_; (focus (go_simp; done)); simp only [Bool.false_eq_true, if_false]) | (with_reducible go_step))
            refine regionQ_F (Below wr.heap.size wr) (by kernel_rfl) (by kernel_rfl) (Below.refl _ _).drew ?_
            repeat (first | (refine listQ_step (v := ?_) rfl ?_ ?_; rotate_left; (focus (intro wq hwq; obtain ⟨hcq, hfq⟩ := bcell hwq; go_simp; (first | rfl | (exact ⟨rfl, rfl⟩) | (fail))))) | (refine listQ_yes (v := ?_) rfl rfl (by decide) ?_ ?_ ?_; rotate_left; (focus (go_simp; done)); (focus (intro wq hwq; obtain ⟨hcq, hfq⟩ := bcell hwq; go_simp; (first | rfl | (exact ⟨rfl, rfl⟩) | (fail))))) | (refine listQ_no (b' := true) rfl rfl (by decide) ?_ ?_ ?_; (focus (go_simp; done)); (focus rfl)) | (refine listQ_no (b' := false) rfl rfl (by decide) ?_ ?_ ?_; (focus (go_simp; done)); (focus rfl)) | (refine listQ_nu rfl rfl (by decide) ?_ ?_; (focus (go_simp; done))) | (refine listQ_nil ?_))
            intro w2 hw2
            obtain ⟨hc2, hf2⟩ := bcell hw2
            have hws := hw2.size
            have kS2 := kS1.at hw2
            repeat (first | ((first | (refine listF_step rfl (fun K' hK => ?_)) | (refine listF_yes rfl rfl (by decide) ?_ (fun K' hK => ?_); (focus (go_simp; done)))); unfold opF; go_simp; (refine hK _ _ ?_); clear hK K') | (refine listF_no (b' := true) rfl rfl (by decide) ?_ ?_ ?_; (focus (go_simp; done)); (focus rfl)) | (refine listF_no (b' := false) rfl rfl (by decide) ?_ ?_ ?_; (focus (go_simp; done)); (focus rfl)) | (refine listF_nu rfl rfl (by decide) ?_ ?_; (focus (go_simp; done))) | (refine listF_nil ?_) | (refine region_F ?_) | (refine cond_F true ?_ ?_; (focus (go_simp; done)); simp only [if_true]) | (refine cond_F false ?_ ?_; (focus (go_simp; done)); simp only [Bool.false_eq_true, if_false]) | (with_reducible go_step))
            have hB2 := hB.trans (hw2.mono (show A + 1 ≤ wr.heap.size by omega))
            refine ⟨_, _, rfl, ?_, k + 1, u, rfl, by omega, ⟨(by first | (go_simp; done) | exact sl2 | (simp only [updS_some, updS_none, Nat.reduceEqDiff, ↓reduceIte]; exact sl2)), (by first | (go_simp; done) | exact sl3 | (simp only [updS_some, updS_none, Nat.reduceEqDiff, ↓reduceIte]; exact sl3)), (by first | (go_simp; done) | exact sl4 | (simp only [updS_some, updS_none, Nat.reduceEqDiff, ↓reduceIte]; exact sl4)), (by first | (go_simp; done) | exact sl5 | (simp only [updS_some, updS_none, Nat.reduceEqDiff, ↓reduceIte]; exact sl5)), (by first | (go_simp; done) | exact sl6 | (simp only [updS_some, updS_none, Nat.reduceEqDiff, ↓reduceIte]; exact sl6)), (by first | (go_simp; done) | exact sl7 | (simp only [updS_some, updS_none, Nat.reduceEqDiff, ↓reduceIte]; exact sl7))⟩, by go_simp, (by apply Cells.conv; (focus (repeat (first | (with_reducible exact kS2) | (with_reducible apply Cells.set) | ((with_reducible apply Cells.setFar); case hn => omega) | (with_reducible apply Cells.up) | (with_reducible apply Cells.drew)))); rfl), (by repeat (first | (with_reducible exact hB2) | (with_reducible refine bdrewN ?_ _) | (with_reducible refine Below.drew ?_) | (with_reducible refine Below.setCell ?_ (by first | omega | (simp; done) | (simp; omega)) _) | (with_reducible refine Below.alloc ?_ (by first | omega | (simp; done) | (simp; omega)) _))), hid (by rw [Hst.out, t1]; simp)⟩
            omega
        · have hkq : k = q.jobs.length := by omega
          subst hkq
          clear hlt2 hk
          have kA' := kA.low hB (by omega)
          have k2' := k2.low hB (by omega)
          have k3' := k3.low hB (by omega)
          have kg' := kg.low hB (by omega)
          have cA0 := kA'.cell 0 rfl
          have cAz := kA'.2.2
          have cAs := kA'.1
          clear k0 k1 k2 k3 kA kg c05 c10
          repeat (first | ((first | (refine listF_step rfl (fun K' hK => ?_)) | (refine listF_yes rfl rfl (by decide) ?_ (fun K' hK => ?_); (focus (go_simp; done)))); unfold opF; go_simp; (refine hK _ _ ?_); clear hK K') | (refine listF_no (b' := true) rfl rfl (by decide) ?_ ?_ ?_; (focus (go_simp; done)); (focus rfl)) | (refine listF_no (b' := false) rfl rfl (by decide) ?_ ?_ ?_; (focus (go_simp; done)); (focus rfl)) | (refine listF_nu rfl rfl (by decide) ?_ ?_; (focus (go_simp; done))) | (refine listF_nil ?_) | (refine region_F ?_) | (refine cond_F true ?_ ?_; (focus (go_simp; done)); simp only [if_true]) | (refine cond_F false ?_ ?_; (focus (go_simp; done)); simp only [Bool.false_eq_true, if_false]) | (with_reducible go_step))
          (refine wp_abs ?_; intro s' hs'; have gl2 := congrFun hs' 2; simp only [updS_some, updS_none, Nat.reduceEqDiff, ↓reduceIte] at gl2; (try rw [sl2] at gl2); have gl3 := congrFun hs' 3; simp only [updS_some, updS_none, Nat.reduceEqDiff, ↓reduceIte] at gl3; (try rw [sl3] at gl3); have gl4 := congrFun hs' 4; simp only [updS_some, updS_none, Nat.reduceEqDiff, ↓reduceIte] at gl4; (try rw [sl4] at gl4); have gl5 := congrFun hs' 5; simp only [updS_some, updS_none, Nat.reduceEqDiff, ↓reduceIte] at gl5; (try rw [sl5] at gl5); have gl6 := congrFun hs' 6; simp only [updS_some, updS_none, Nat.reduceEqDiff, ↓reduceIte] at gl6; (try rw [sl6] at gl6); have gl7 := congrFun hs' 7; simp only [updS_some, updS_none, Nat.reduceEqDiff, ↓reduceIte] at gl7; (try rw [sl7] at gl7); clear hs'; (try clear sl2); (try clear sl3); (try clear sl4); (try clear sl5); (try clear sl6); (try clear sl7); have sl2 := gl2; clear gl2; have sl3 := gl3; clear gl3; have sl4 := gl4; clear gl4; have sl5 := gl5; clear gl5; have sl6 := gl6; clear gl6; have sl7 := gl7; clear gl7)
          refine wp_absw ?_
          intro wv hwv
          have kA9 : Cells wv A [.int .i64 u, .slice (some ⟨g, 0, none⟩) q.jobs.length cap] := by rw [hwv]; exact (by apply Cells.conv; (focus (repeat (first | (with_reducible exact kA') | (with_reducible apply Cells.set) | ((with_reducible apply Cells.setFar); case hn => omega) | (with_reducible apply Cells.up) | (with_reducible apply Cells.drew)))); rfl)
          have kS9 : Cells wv (A + 1) [.int .i64 6, .int .i64 (-1), .int .i64 q.now, .int .i64 u] := by rw [hwv]; exact (by apply Cells.conv; (focus (repeat (first | (with_reducible exact kS1) | (with_reducible apply Cells.set) | ((with_reducible apply Cells.setFar); case hn => omega) | (with_reducible apply Cells.up) | (with_reducible apply Cells.drew)))); rfl)
          have k29 : Cells wv (w.heap.size + 1 + 1) [.int .i64 0, .int .i64 0, .int .i64 0, .int .i64 0] := by rw [hwv]; exact (by apply Cells.conv; (focus (repeat (first | (with_reducible exact k2') | (with_reducible apply Cells.set) | ((with_reducible apply Cells.setFar); case hn => omega) | (with_reducible apply Cells.up) | (with_reducible apply Cells.drew)))); rfl)
          have k39 : Cells wv (w.heap.size + 1 + 1 + 1) [.int .i64 0, .slice none 0 0] := by rw [hwv]; exact (by apply Cells.conv; (focus (repeat (first | (with_reducible exact k3') | (with_reducible apply Cells.set) | ((with_reducible apply Cells.setFar); case hn => omega) | (with_reducible apply Cells.up) | (with_reducible apply Cells.drew)))); rfl)
          have kg9 : Cells wv g (q.jobs.flatMap St.cs) := by rw [hwv]; exact (by apply Cells.conv; (focus (repeat (first | (with_reducible exact kg') | (with_reducible apply Cells.set) | ((with_reducible apply Cells.setFar); case hn => omega) | (with_reducible apply Cells.up) | (with_reducible apply Cells.drew)))); rfl)
          have HB9 := hid (show Below w.heap.size w wv by rw [hwv]; exact (by repeat (first | (with_reducible exact HBr.out) | (with_reducible refine bdrewN ?_ _) | (with_reducible refine Below.drew ?_) | (with_reducible refine Below.setCell ?_ (by first | omega | (simp; done) | (simp; omega)) _) | (with_reducible refine Below.alloc ?_ (by first | omega | (simp; done) | (simp; omega)) _))))
          have HE := hid (hu.out)
          clear hwv cA0 cAz cAs kA' k2' k3' kg' kS1 cS3 cSz cSs hu HBr hB HB7 k0' k1' c11
          have cS0 := kS9.cell 0 rfl
          have cS1 := kS9.cell 1 rfl
          have cS2 := kS9.cell 2 rfl
          have cS3 := kS9.cell 3 rfl
          have cA0 := kA9.cell 0 rfl
          have cA1 := kA9.cell 1 rfl
          have jS := kS9.1
          have jA := kA9.1
          have j2 := k29.1
          have j3 := k39.1
          have mS2 : ¬ (A + 1) = w.heap.size + 1 + 1 := by omega
          have mS3 : ¬ (A + 1) = w.heap.size + 1 + 1 + 1 := by omega
          have mA2 : ¬ A = w.heap.size + 1 + 1 := by omega
          have mA3 : ¬ A = w.heap.size + 1 + 1 + 1 := by omega
          have mS2' : ¬ A = w.heap.size + 1 := by omega
          have mS3' : ¬ A = w.heap.size + 1 + 1 := by omega
          refine regionR_F [(w.heap.size + 1 + 1), (w.heap.size + 1 + 1 + 1)] [[.int .i64 0, .int .i64 0, .int .i64 0, .int .i64 0], [.int .i64 0, .slice none 0 0]] [4, 5] [.q [], .q [], .st 4, .st 5] [?v3_0, ?v3_1, fun _ => undef, fun _ => undef] [fun _ => [], fun _ => [], ?c3_2, ?c3_3] (by kernel_rfl) (by kernel_rfl) (by kernel_rfl) (by kernel_rfl) (by kernel_rfl) (by first | exact List.nodup_nil | exact List.nodup_singleton _ | (simp; done) | (simp; omega)) (bc_cons (by repeat (first | (with_reducible exact k29) | (with_reducible refine Cells.drew ?_) | (with_reducible refine Cells.up ?_ _) | (with_reducible refine Cells.setFar ?_ (by omega)))) (bc_cons (by repeat (first | (with_reducible exact k39) | (with_reducible refine Cells.drew ?_) | (with_reducible refine Cells.up ?_ _) | (with_reducible refine Cells.setFar ?_ (by omega)))) bc_nil)) ?walk3 ?dep3
          case walk3 =>
            refine walkR_q (by rfl) (fun X hX wq hwq hrq => ?_) ?_
            · obtain ⟨hcq, hfq⟩ := hwq.b2
              clear hrq
              go_simp
              (first | rfl | exact ⟨rfl, rfl⟩)
            refine walkR_q (by rfl) (fun X hX wq hwq hrq => ?_) ?_
            · obtain ⟨hcq, hfq⟩ := hwq.b2
              clear hrq
              go_simp
              (first | rfl | exact ⟨rfl, rfl⟩)
            refine walkR_st (by rfl) (fun X hX wq hwq hkq => ?_) ?_
            · rw [show X 4 = (w.heap.size + 1 + 1) from hX.at0 0 _ rfl] at hkq ⊢
              replace hkq : Cells wq (w.heap.size + 1 + 1) [.int .i64 0, .int .i64 0, .int .i64 0, .int .i64 0] := hkq
              have hks := hkq.1
              have hkz := hkq.2.2
              have hk0 := hkq.cell 0 rfl
              have hk1 := hkq.cell 1 rfl
              have hk2 := hkq.cell 2 rfl
              have hk3 := hkq.cell 3 rfl
              go_simp
              (first | ((with_reducible refine writeB_mk (Cells.set hkq) ?_ ?_); (focus (repeat (first | (with_reducible exact Only.refl _ _) | (with_reducible refine Only.set ?_)))); rfl) | ((with_reducible refine writeB_mk (Cells.set (Cells.set hkq)) ?_ ?_); (focus (repeat (first | (with_reducible exact Only.refl _ _) | (with_reducible refine Only.set ?_)))); rfl) | ((with_reducible refine writeB_mk (Cells.set (Cells.set (Cells.set hkq))) ?_ ?_); (focus (repeat (first | (with_reducible exact Only.refl _ _) | (with_reducible refine Only.set ?_)))); rfl) | ((with_reducible refine writeB_mk (Cells.set (Cells.set (Cells.set (Cells.set hkq)))) ?_ ?_); (focus (repeat (first | (with_reducible exact Only.refl _ _) | (with_reducible refine Only.set ?_)))); rfl) | ((with_reducible refine writeB_mk (Cells.set (Cells.set (Cells.set (Cells.set (Cells.set hkq))))) ?_ ?_); (focus (repeat (first | (with_reducible exact Only.refl _ _) | (with_reducible refine Only.set ?_)))); rfl) | ((with_reducible refine writeB_mk (Cells.set (Cells.set (Cells.set (Cells.set (Cells.set (Cells.set hkq)))))) ?_ ?_); (focus (repeat (first | (with_reducible exact Only.refl _ _) | (with_reducible refine Only.set ?_)))); rfl) | ((with_reducible refine writeB_mk (Cells.set (Cells.set (Cells.set (Cells.set (Cells.set (Cells.set (Cells.set hkq))))))) ?_ ?_); (focus (repeat (first | (with_reducible exact Only.refl _ _) | (with_reducible refine Only.set ?_)))); rfl) | ((with_reducible refine writeB_mk (Cells.set (Cells.set (Cells.set (Cells.set (Cells.set (Cells.set (Cells.set (Cells.set hkq)))))))) ?_ ?_); (focus (repeat (first | (with_reducible exact Only.refl _ _) | (with_reducible refine Only.set ?_)))); rfl))
            refine walkR_st (by rfl) (fun X hX wq hwq hkq => ?_) ?_
            · rw [show X 5 = (w.heap.size + 1 + 1 + 1) from hX.at0 1 _ rfl] at hkq ⊢
              replace hkq : Cells wq (w.heap.size + 1 + 1 + 1) [.int .i64 0, .slice none 0 0] := hkq
              have hks := hkq.1
              have hkz := hkq.2.2
              have hk0 := hkq.cell 0 rfl
              have hk1 := hkq.cell 1 rfl
              go_simp
              (first | ((with_reducible refine writeB_mk (Cells.set hkq) ?_ ?_); (focus (repeat (first | (with_reducible exact Only.refl _ _) | (with_reducible refine Only.set ?_)))); rfl) | ((with_reducible refine writeB_mk (Cells.set (Cells.set hkq)) ?_ ?_); (focus (repeat (first | (with_reducible exact Only.refl _ _) | (with_reducible refine Only.set ?_)))); rfl) | ((with_reducible refine writeB_mk (Cells.set (Cells.set (Cells.set hkq))) ?_ ?_); (focus (repeat (first | (with_reducible exact Only.refl _ _) | (with_reducible refine Only.set ?_)))); rfl) | ((with_reducible refine writeB_mk (Cells.set (Cells.set (Cells.set (Cells.set hkq)))) ?_ ?_); (focus (repeat (first | (with_reducible exact Only.refl _ _) | (with_reducible refine Only.set ?_)))); rfl) | ((with_reducible refine writeB_mk (Cells.set (Cells.set (Cells.set (Cells.set (Cells.set hkq))))) ?_ ?_); (focus (repeat (first | (with_reducible exact Only.refl _ _) | (with_reducible refine Only.set ?_)))); rfl) | ((with_reducible refine writeB_mk (Cells.set (Cells.set (Cells.set (Cells.set (Cells.set (Cells.set hkq)))))) ?_ ?_); (focus (repeat (first | (with_reducible exact Only.refl _ _) | (with_reducible refine Only.set ?_)))); rfl) | ((with_reducible refine writeB_mk (Cells.set (Cells.set (Cells.set (Cells.set (Cells.set (Cells.set (Cells.set hkq))))))) ?_ ?_); (focus (repeat (first | (with_reducible exact Only.refl _ _) | (with_reducible refine Only.set ?_)))); rfl) | ((with_reducible refine writeB_mk (Cells.set (Cells.set (Cells.set (Cells.set (Cells.set (Cells.set (Cells.set (Cells.set hkq)))))))) ?_ ?_); (focus (repeat (first | (with_reducible exact Only.refl _ _) | (with_reducible refine Only.set ?_)))); rfl))
            refine walkR_nil (fun X hX wz hwz hcz => ?_)
            have kz0 := hcz 4 (by simp)
            rw [show X 4 = (w.heap.size + 1 + 1) from hX.at0 0 _ rfl] at kz0
            simp only [updC_some, updC_none, Nat.reduceEqDiff, ↓reduceIte] at kz0
            have kz1 := hcz 5 (by simp)
            rw [show X 5 = (w.heap.size + 1 + 1 + 1) from hX.at0 1 _ rfl] at kz1
            simp only [updC_some, updC_none, Nat.reduceEqDiff, ↓reduceIte] at kz1
            clear hX hcz
            (try clear X)
            repeat (first | ((first | (refine listF_step rfl (fun K' hK => ?_)) | (refine listF_yes rfl rfl (by decide) ?_ (fun K' hK => ?_); (focus (go_simp; done)))); unfold opF; go_simp; (refine hK _ _ ?_); clear hK K') | (refine listF_no (b' := true) rfl rfl (by decide) ?_ ?_ ?_; (focus (go_simp; done)); (focus rfl)) | (refine listF_no (b' := false) rfl rfl (by decide) ?_ ?_ ?_; (focus (go_simp; done)); (focus rfl)) | (refine listF_nu rfl rfl (by decide) ?_ ?_; (focus (go_simp; done))) | (refine listF_nil ?_) | (refine region_F ?_) | (refine cond_F true ?_ ?_; (focus (go_simp; done)); simp only [if_true]) | (refine cond_F false ?_ ?_; (focus (go_simp; done)); simp only [Bool.false_eq_true, if_false]) | (with_reducible go_step))
            refine ret_F (.tuple #[.agg #[.int .i64 6, .int .i64 (-1), .int .i64 q.now, .int .i64 u], .agg #[.int .i64 u, .slice (some ⟨g, 0, none⟩) q.jobs.length cap]]) (res_cc (ad := ⟨w.heap.size + 1 + 1, 0, none⟩) (ad2 := ⟨w.heap.size + 1 + 1 + 1, 0, none⟩) Try.results57 ((getD_F (by simp)).trans (by go_simp)) ((getD_F (by simp)).trans (by go_simp)) (load_spell (kz0.cell 0 rfl) (kz0.cell 1 rfl) (kz0.cell 2 rfl) (kz0.cell 3 rfl)) (load_qu (kz1.cell 0 rfl) (kz1.cell 1 rfl))) ?_
            refine ⟨g, cap, by rw [Hnext.out, ← HE.out], by omega, ?_, HB9.out.trans (hwz.low (N := w.heap.size) (by omega) (by simp; omega))⟩
            rw [Hnext.out]
            exact Cells.rd (f := St.cs) (m := 5) (fun _ => rfl) (kg9.old hwz (by simp; omega))
          case dep3 =>
            refine depR_cons (fun X X' h => ?_) ?_
            · (first | exact ⟨rfl, rfl⟩)
            refine depR_cons (fun X X' h => ?_) ?_
            · (first | exact ⟨rfl, rfl⟩)
            refine depR_cons (fun X X' h => ?_) ?_
            · (first | exact ⟨rfl, rfl⟩)
            refine depR_cons (fun X X' h => ?_) ?_
            · (first | exact ⟨rfl, rfl⟩)
            exact depR_nil
      · have Hnext := hid (show nextStep W q = runStep W q m from by
          unfold nextStep; rw [Hr.out]; simp only [hr]; rw [if_neg (by omega), Int.toNat_natCast])
        have hcand := taken_cand _ _ hr
        rw [hr]
        clear hr
        have hm0 : decide ((m : Int) < 0) = false := decide_eq_false (by omega)
        have hml : m < W.jobs.length := by have := HQ.out.len; omega
        have hwhy : q.jobs[m].why = 0 := by
          rw [cand_eq hm hml] at hcand
          simp only [Bool.and_eq_true, beq_iff_eq] at hcand
          exact hcand.1
        have Hwhy := hid hwhy
        clear hcand hwhy
        obtain ⟨bj, oj, rfl, hbj, d1, d2, d3, d4⟩ := RdJobs.ne (HW.out.jobs.at HB6.out) hml
        obtain ⟨o2, e1, e2, e3, e4, e5⟩ := RdSts.get (Rd.at Hq.out HB6.out) hm
        have c05 := k0.cell 5 rfl
        have c11 := k1.cell 1 rfl
        have q0 := k0.1
        have q1 := k1.1
        have x1 : (m : Int) < (q.jobs.length : Int) := by omega
        have x2 : (m : Int) < (W.jobs.length : Int) := by omega
        repeat (first | ((first | (refine listF_step rfl (fun K' hK => ?_)) | (refine listF_yes rfl rfl (by decide) ?_ (fun K' hK => ?_); (focus (go_simp; done)))); unfold opF; go_simp; (refine hK _ _ ?_); clear hK K') | (refine listF_no (b' := true) rfl rfl (by decide) ?_ ?_ ?_; (focus (go_simp; done)); (focus rfl)) | (refine listF_no (b' := false) rfl rfl (by decide) ?_ ?_ ?_; (focus (go_simp; done)); (focus rfl)) | (refine listF_nu rfl rfl (by decide) ?_ ?_; (focus (go_simp; done))) | (refine listF_nil ?_) | (refine region_F ?_) | (refine cond_F true ?_ ?_; (focus (go_simp; done)); simp only [if_true]) | (refine cond_F false ?_ ?_; (focus (go_simp; done)); simp only [Bool.false_eq_true, if_false]) | (with_reducible go_step))
        refine regionR_F [] [] [10, 11] [.q [], .q [], .q [], .q [], .q [], .q [], .q [], .q [], .q [], .q [], .a, .a, .st 10, .st 11] [?v4_0, ?v4_1, ?v4_2, ?v4_3, ?v4_4, ?v4_5, ?v4_6, ?v4_7, ?v4_8, ?v4_9, ?v4_10, ?v4_11, fun _ => undef, fun _ => undef] [fun _ => [], fun _ => [], fun _ => [], fun _ => [], fun _ => [], fun _ => [], fun _ => [], fun _ => [], fun _ => [], fun _ => [], ?c4_10, ?c4_11, ?c4_12, ?c4_13] (by kernel_rfl) (by kernel_rfl) (by kernel_rfl) (by kernel_rfl) (by kernel_rfl) (by first | exact List.nodup_nil | exact List.nodup_singleton _ | (simp; done) | (simp; omega)) bc_nil ?walk4 ?dep4
        case' walk4 =>
          refine walkR_q (by rfl) (fun X hX wq hwq hrq => ?_) ?_
          · obtain ⟨hcq, hfq⟩ := hwq.b0
            clear hrq
            go_simp
            (first | rfl | exact ⟨rfl, rfl⟩)
          refine walkR_q (by rfl) (fun X hX wq hwq hrq => ?_) ?_
          · obtain ⟨hcq, hfq⟩ := hwq.b0
            clear hrq
            go_simp
            (first | rfl | exact ⟨rfl, rfl⟩)
          refine walkR_q (by rfl) (fun X hX wq hwq hrq => ?_) ?_
          · obtain ⟨hcq, hfq⟩ := hwq.b0
            clear hrq
            go_simp
            (first | rfl | exact ⟨rfl, rfl⟩)
          refine walkR_q (by rfl) (fun X hX wq hwq hrq => ?_) ?_
          · obtain ⟨hcq, hfq⟩ := hwq.b0
            clear hrq
            go_simp
            (first | rfl | exact ⟨rfl, rfl⟩)
          refine walkR_q (by rfl) (fun X hX wq hwq hrq => ?_) ?_
          · obtain ⟨hcq, hfq⟩ := hwq.b0
            clear hrq
            go_simp
            (first | rfl | exact ⟨rfl, rfl⟩)
          refine walkR_q (by rfl) (fun X hX wq hwq hrq => ?_) ?_
          · obtain ⟨hcq, hfq⟩ := hwq.b0
            clear hrq
            go_simp
            (first | rfl | exact ⟨rfl, rfl⟩)
          refine walkR_q (by rfl) (fun X hX wq hwq hrq => ?_) ?_
          · obtain ⟨hcq, hfq⟩ := hwq.b0
            clear hrq
            go_simp
            (first | rfl | exact ⟨rfl, rfl⟩)
          refine walkR_q (by rfl) (fun X hX wq hwq hrq => ?_) ?_
          · obtain ⟨hcq, hfq⟩ := hwq.b0
            clear hrq
            go_simp
            (first | rfl | exact ⟨rfl, rfl⟩)
          refine walkR_q (by rfl) (fun X hX wq hwq hrq => ?_) ?_
          · obtain ⟨hcq, hfq⟩ := hwq.b0
            clear hrq
            go_simp
            (first | rfl | exact ⟨rfl, rfl⟩)
          refine walkR_q (by rfl) (fun X hX wq hwq hrq => ?_) ?_
          · obtain ⟨hcq, hfq⟩ := hwq.b0
            clear hrq
            go_simp
            (first | rfl | exact ⟨rfl, rfl⟩)
          refine walkR_a (by rfl) (fun X hX wq hwq hsq => ?_) ?_
          · go_simp
            refine newB_mk ?_ ?_
            · rfl
            · rfl
          refine walkR_a (by rfl) (fun X hX wq hwq hsq => ?_) ?_
          · go_simp
            refine newB_mk ?_ ?_
            · rfl
            · rfl
          refine walkR_st (by rfl) (fun X hX wq hwq hkq => ?_) ?_
          · simp only [updC_some, updC_none, Nat.reduceEqDiff, ↓reduceIte] at hkq
            have hks := hkq.1
            have hkz := hkq.2.2
            (try have hk0 := hkq.cell 0 rfl)
            (try have hk1 := hkq.cell 1 rfl)
            (try have hk2 := hkq.cell 2 rfl)
            (try have hk3 := hkq.cell 3 rfl)
            (try have hk4 := hkq.cell 4 rfl)
            (try have hk5 := hkq.cell 5 rfl)
            (try have hk6 := hkq.cell 6 rfl)
            (try have hk7 := hkq.cell 7 rfl)
            go_simp
            (first | ((with_reducible refine writeB_mk (Cells.set hkq) ?_ ?_); (focus (repeat (first | (with_reducible exact Only.refl _ _) | (with_reducible refine Only.set ?_)))); rfl) | ((with_reducible refine writeB_mk (Cells.set (Cells.set hkq)) ?_ ?_); (focus (repeat (first | (with_reducible exact Only.refl _ _) | (with_reducible refine Only.set ?_)))); rfl) | ((with_reducible refine writeB_mk (Cells.set (Cells.set (Cells.set hkq))) ?_ ?_); (focus (repeat (first | (with_reducible exact Only.refl _ _) | (with_reducible refine Only.set ?_)))); rfl) | ((with_reducible refine writeB_mk (Cells.set (Cells.set (Cells.set (Cells.set hkq)))) ?_ ?_); (focus (repeat (first | (with_reducible exact Only.refl _ _) | (with_reducible refine Only.set ?_)))); rfl) | ((with_reducible refine writeB_mk (Cells.set (Cells.set (Cells.set (Cells.set (Cells.set hkq))))) ?_ ?_); (focus (repeat (first | (with_reducible exact Only.refl _ _) | (with_reducible refine Only.set ?_)))); rfl) | ((with_reducible refine writeB_mk (Cells.set (Cells.set (Cells.set (Cells.set (Cells.set (Cells.set hkq)))))) ?_ ?_); (focus (repeat (first | (with_reducible exact Only.refl _ _) | (with_reducible refine Only.set ?_)))); rfl) | ((with_reducible refine writeB_mk (Cells.set (Cells.set (Cells.set (Cells.set (Cells.set (Cells.set (Cells.set hkq))))))) ?_ ?_); (focus (repeat (first | (with_reducible exact Only.refl _ _) | (with_reducible refine Only.set ?_)))); rfl) | ((with_reducible refine writeB_mk (Cells.set (Cells.set (Cells.set (Cells.set (Cells.set (Cells.set (Cells.set (Cells.set hkq)))))))) ?_ ?_); (focus (repeat (first | (with_reducible exact Only.refl _ _) | (with_reducible refine Only.set ?_)))); rfl))
          refine walkR_st (by rfl) (fun X hX wq hwq hkq => ?_) ?_
          · simp only [updC_some, updC_none, Nat.reduceEqDiff, ↓reduceIte] at hkq
            have hks := hkq.1
            have hkz := hkq.2.2
            (try have hk0 := hkq.cell 0 rfl)
            (try have hk1 := hkq.cell 1 rfl)
            (try have hk2 := hkq.cell 2 rfl)
            (try have hk3 := hkq.cell 3 rfl)
            (try have hk4 := hkq.cell 4 rfl)
            (try have hk5 := hkq.cell 5 rfl)
            (try have hk6 := hkq.cell 6 rfl)
            (try have hk7 := hkq.cell 7 rfl)
            go_simp
            (first | ((with_reducible refine writeB_mk (Cells.set hkq) ?_ ?_); (focus (repeat (first | (with_reducible exact Only.refl _ _) | (with_reducible refine Only.set ?_)))); rfl) | ((with_reducible refine writeB_mk (Cells.set (Cells.set hkq)) ?_ ?_); (focus (repeat (first | (with_reducible exact Only.refl _ _) | (with_reducible refine Only.set ?_)))); rfl) | ((with_reducible refine writeB_mk (Cells.set (Cells.set (Cells.set hkq))) ?_ ?_); (focus (repeat (first | (with_reducible exact Only.refl _ _) | (with_reducible refine Only.set ?_)))); rfl) | ((with_reducible refine writeB_mk (Cells.set (Cells.set (Cells.set (Cells.set hkq)))) ?_ ?_); (focus (repeat (first | (with_reducible exact Only.refl _ _) | (with_reducible refine Only.set ?_)))); rfl) | ((with_reducible refine writeB_mk (Cells.set (Cells.set (Cells.set (Cells.set (Cells.set hkq))))) ?_ ?_); (focus (repeat (first | (with_reducible exact Only.refl _ _) | (with_reducible refine Only.set ?_)))); rfl) | ((with_reducible refine writeB_mk (Cells.set (Cells.set (Cells.set (Cells.set (Cells.set (Cells.set hkq)))))) ?_ ?_); (focus (repeat (first | (with_reducible exact Only.refl _ _) | (with_reducible refine Only.set ?_)))); rfl) | ((with_reducible refine writeB_mk (Cells.set (Cells.set (Cells.set (Cells.set (Cells.set (Cells.set (Cells.set hkq))))))) ?_ ?_); (focus (repeat (first | (with_reducible exact Only.refl _ _) | (with_reducible refine Only.set ?_)))); rfl) | ((with_reducible refine writeB_mk (Cells.set (Cells.set (Cells.set (Cells.set (Cells.set (Cells.set (Cells.set (Cells.set hkq)))))))) ?_ ?_); (focus (repeat (first | (with_reducible exact Only.refl _ _) | (with_reducible refine Only.set ?_)))); rfl))
          refine walkR_nil (fun X hX wz hwz hcz => ?_)
          have ka10 := hcz 10 (by simp)
          simp only [updC_some, updC_none, Nat.reduceEqDiff, ↓reduceIte] at ka10
          have la10 := hX.lo 10 rfl
          have ln10_11 := hX.ne 10 11 rfl rfl (by decide)
          have ka11 := hcz 11 (by simp)
          simp only [updC_some, updC_none, Nat.reduceEqDiff, ↓reduceIte] at ka11
          have la11 := hX.lo 11 rfl
          clear hX hcz
          generalize X 10 = J10 at *
          generalize X 11 = J11 at *
          (try clear X)
        case dep4 =>
          refine depR_cons (fun X X' h => ?_) ?_
          · (first | exact ⟨rfl, rfl⟩)
          refine depR_cons (fun X X' h => ?_) ?_
          · (first | exact ⟨rfl, rfl⟩)
          refine depR_cons (fun X X' h => ?_) ?_
          · (first | exact ⟨rfl, rfl⟩)
          refine depR_cons (fun X X' h => ?_) ?_
          · (first | exact ⟨rfl, rfl⟩)
          refine depR_cons (fun X X' h => ?_) ?_
          · (first | exact ⟨rfl, rfl⟩)
          refine depR_cons (fun X X' h => ?_) ?_
          · (first | exact ⟨rfl, rfl⟩)
          refine depR_cons (fun X X' h => ?_) ?_
          · (first | exact ⟨rfl, rfl⟩)
          refine depR_cons (fun X X' h => ?_) ?_
          · (first | exact ⟨rfl, rfl⟩)
          refine depR_cons (fun X X' h => ?_) ?_
          · (first | exact ⟨rfl, rfl⟩)
          refine depR_cons (fun X X' h => ?_) ?_
          · (first | exact ⟨rfl, rfl⟩)
          refine depR_cons (fun X X' h => ?_) ?_
          · (first | exact ⟨rfl, rfl⟩ | (have e10 := h 10 (by decide +kernel); constructor <;> (first | rfl | (simp only [e10]))))
          refine depR_cons (fun X X' h => ?_) ?_
          · (first | exact ⟨rfl, rfl⟩ | (have e11 := h 11 (by decide +kernel); constructor <;> (first | rfl | (simp only [e11]))))
          refine depR_cons (fun X X' h => ?_) ?_
          · (first | exact ⟨rfl, rfl⟩ | (have e10 := h 10 (by decide +kernel); have e11 := h 11 (by decide +kernel); constructor <;> (first | rfl | (simp only [e10, e11]))))
          refine depR_cons (fun X X' h => ?_) ?_
          · (first | exact ⟨rfl, rfl⟩ | (have e10 := h 10 (by decide +kernel); have e11 := h 11 (by decide +kernel); constructor <;> (first | rfl | (simp only [e10, e11]))))
          exact depR_nil
        have hb27 := hwz.low (N := w6.heap.size) (Nat.le_refl _) (by simp)
        have kJ : Cells wz J10 [.string W.jobs[m].name, .int .i64 W.jobs[m].arrive, .int .i64 W.jobs[m].claim, .int .i64 W.jobs[m].needs] := ka10
        have kX : Cells wz J11 [.int .i64 q.jobs[m].progress, .int .i64 q.jobs[m].since, .int .i64 q.jobs[m].charge, .int .i64 q.jobs[m].why, .int .i64 q.jobs[m].ended] := ka11
        have hJ : w6.heap.size ≤ J10 := la10
        have hX : w6.heap.size ≤ J11 := la11
        replace k0 := k0.at hb27
        replace k1 := k1.at hb27
        replace k2 := k2.at hb27
        replace k3 := k3.at hb27
        replace kA := kA.at hb27
        replace kS := kS.at hb27
        replace kg := kg.at hb27
        have HBz := hid (HB6.out.trans (hb27.mono HB6.out.size) : Below w.heap.size w wz)
        have hsz := hb27.size
        clear ka10 ka11 la10 la11 hwz hb27 hB6 HB6 d1 d2 d3 d4 e1 e2 e3 e4 e5 c05 c11 q0 q1 hbj o2 hm0 x2
        repeat (first | ((first | (refine listF_step rfl (fun K' hK => ?_)) | (refine listF_yes rfl rfl (by decide) ?_ (fun K' hK => ?_); (focus (go_simp; done)))); unfold opF; go_simp; (refine hK _ _ ?_); clear hK K') | (refine listF_no (b' := true) rfl rfl (by decide) ?_ ?_ ?_; (focus (go_simp; done)); (focus rfl)) | (refine listF_no (b' := false) rfl rfl (by decide) ?_ ?_ ?_; (focus (go_simp; done)); (focus rfl)) | (refine listF_nu rfl rfl (by decide) ?_ ?_; (focus (go_simp; done))) | (refine listF_nil ?_) | (refine region_F ?_) | (refine cond_F true ?_ ?_; (focus (go_simp; done)); simp only [if_true]) | (refine cond_F false ?_ ?_; (focus (go_simp; done)); simp only [Bool.false_eq_true, if_false]) | (with_reducible go_step))
        (refine wp_abs ?_; intro s' hs'; have gl2 := congrFun hs' 2; simp only [updS_some, updS_none, Nat.reduceEqDiff, ↓reduceIte] at gl2; (try rw [sl2] at gl2); have gl3 := congrFun hs' 3; simp only [updS_some, updS_none, Nat.reduceEqDiff, ↓reduceIte] at gl3; (try rw [sl3] at gl3); have gl4 := congrFun hs' 4; simp only [updS_some, updS_none, Nat.reduceEqDiff, ↓reduceIte] at gl4; (try rw [sl4] at gl4); have gl5 := congrFun hs' 5; simp only [updS_some, updS_none, Nat.reduceEqDiff, ↓reduceIte] at gl5; (try rw [sl5] at gl5); have gl6 := congrFun hs' 6; simp only [updS_some, updS_none, Nat.reduceEqDiff, ↓reduceIte] at gl6; (try rw [sl6] at gl6); have gl7 := congrFun hs' 7; simp only [updS_some, updS_none, Nat.reduceEqDiff, ↓reduceIte] at gl7; (try rw [sl7] at gl7); have gl10 := congrFun hs' 10; simp only [updS_some, updS_none, Nat.reduceEqDiff, ↓reduceIte] at gl10; (try rw [sl10] at gl10); have gl12 := congrFun hs' 12; simp only [updS_some, updS_none, Nat.reduceEqDiff, ↓reduceIte] at gl12; (try rw [sl12] at gl12); have gl14 := congrFun hs' 14; simp only [updS_some, updS_none, Nat.reduceEqDiff, ↓reduceIte] at gl14; (try rw [sl14] at gl14); have gl15 := congrFun hs' 15; simp only [updS_some, updS_none, Nat.reduceEqDiff, ↓reduceIte] at gl15; (try rw [sl15] at gl15); clear hs'; (try clear sl2); (try clear sl3); (try clear sl4); (try clear sl5); (try clear sl6); (try clear sl7); (try clear sl10); (try clear sl12); (try clear sl14); (try clear sl15); have sl2 := gl2; clear gl2; have sl3 := gl3; clear gl3; have sl4 := gl4; clear gl4; have sl5 := gl5; clear gl5; have sl6 := gl6; clear gl6; have sl7 := gl7; clear gl7; have sl10 := gl10; clear gl10; have sl12 := gl12; clear gl12; have sl14 := gl14; clear gl14; have sl15 := gl15; clear gl15)
        have c00 := k0.cell 0 rfl
        have q0 := k0.1
        have j0 := kJ.cell 0 rfl
        have j1 := kJ.cell 1 rfl
        have j2 := kJ.cell 2 rfl
        have j3 := kJ.cell 3 rfl
        have jz := kJ.1
        have y0 := kX.cell 0 rfl
        have yz := kX.1
        obtain ⟨⟨b1, b3⟩, ⟨b4, b5⟩, ⟨b6, b7⟩, _, ⟨b8, b9⟩⟩ := HK.out.rb
        obtain ⟨f1, f2, f3, f4⟩ := Job.fin_bd (HK.out.job m hml)
        obtain ⟨⟨g1, g2⟩, ⟨g3, g4⟩, ⟨g5, g6⟩, _, _, g7⟩ := HQ.out.b hm hml
        have g8 : q.jobs[m].progress < W.jobs[m].fin := by have := g7 Hwhy.out; omega
        clear g7
        have Hmn := hid (mins_eq (W := W) (q := q) hm hml)
        have s1 : IntKind.i64.wrap (W.jobs[m].fin - q.jobs[m].progress) = W.jobs[m].fin - q.jobs[m].progress := IntWalk.i64_in _ (by omega)
        refine regionQ_F (Below wz.heap.size wz) (by kernel_rfl) (by kernel_rfl) (Below.refl _ _).drew ?_
        repeat (first | (refine listQ_step (v := ?_) rfl ?_ ?_; rotate_left; (focus (intro wq hwq; obtain ⟨hcq, hfq⟩ := bcell hwq; go_simp; (first | rfl | (exact ⟨rfl, rfl⟩) | (exact rend_c W.jobs[m] hwq hwq.size))))) | (refine listQ_yes (v := ?_) rfl rfl (by decide) ?_ ?_ ?_; rotate_left; (focus (go_simp; done)); (focus (intro wq hwq; obtain ⟨hcq, hfq⟩ := bcell hwq; go_simp; (first | rfl | (exact ⟨rfl, rfl⟩) | (exact rend_c W.jobs[m] hwq hwq.size))))) | (refine listQ_no (b' := true) rfl rfl (by decide) ?_ ?_ ?_; (focus (go_simp; done)); (focus rfl)) | (refine listQ_no (b' := false) rfl rfl (by decide) ?_ ?_ ?_; (focus (go_simp; done)); (focus rfl)) | (refine listQ_nu rfl rfl (by decide) ?_ ?_; (focus (go_simp; done))) | (refine listQ_nil ?_))
        intro w7 hw7
        rw [← Hmn.out]
        have hmb : 1 ≤ minutesOf W q m ∧ minutesOf W q m ≤ 600 ∧ q.jobs[m].progress + minutesOf W q m ≤ W.jobs[m].fin := by rw [Hmn.out]; split <;> omega
        clear s1 Hmn
        generalize hmn : minutesOf W q m = mn at *
        have Hmn := hid hmn
        clear hmn
        obtain ⟨h1, h2, h3⟩ := hmb
        replace k0 := k0.at hw7
        replace k1 := k1.at hw7
        replace k2 := k2.at hw7
        replace k3 := k3.at hw7
        replace kA := kA.at hw7
        replace kS := kS.at hw7
        replace kg := kg.at hw7
        replace kJ := kJ.at hw7
        replace kX := kX.at hw7
        have HB7 := hid (HBz.out.trans (hw7.mono HBz.out.size) : Below w.heap.size w w7)
        clear c00 q0 j0 j1 j2 j3 jz y0 yz hw7 HBz
        have c00 := k0.cell 0 rfl
        have c01 := k0.cell 1 rfl
        have c02 := k0.cell 2 rfl
        have q0 := k0.1
        have c10 := k1.cell 0 rfl
        have q1 := k1.1
        have cS0 := kS.cell 0 rfl
        have cS1 := kS.cell 1 rfl
        have cS3 := kS.cell 3 rfl
        have cSz := kS.2.2
        have cSs := kS.1
        have y0 := kX.cell 0 rfl
        have yz := kX.2.2
        have ys := kX.1
        have nw0 := HQ.out.now0
        have nw1 := HQ.out.now1
        have u1 : IntKind.i64.wrap (q.now + W.rules.load) = q.now + W.rules.load := IntWalk.i64_in _ (by omega)
        have u2 : IntKind.i64.wrap (q.now + W.rules.load + mn) = q.now + W.rules.load + mn := IntWalk.i64_in _ (by omega)
        have u3 : IntKind.i64.wrap (q.now + W.rules.load + mn + W.rules.dump) = q.now + W.rules.load + mn + W.rules.dump := IntWalk.i64_in _ (by omega)
        have u4 : IntKind.i64.wrap (q.jobs[m].progress + mn) = q.jobs[m].progress + mn := IntWalk.i64_in _ (by omega)
        have nSX : ¬ J11 = A + 1 := by omega
        have nSX' : ¬ A + 1 = J11 := by omega
        repeat (first | ((first | (refine listF_step rfl (fun K' hK => ?_)) | (refine listF_yes rfl rfl (by decide) ?_ (fun K' hK => ?_); (focus (go_simp; done)))); unfold opF; go_simp; (refine hK _ _ ?_); clear hK K') | (refine listF_no (b' := true) rfl rfl (by decide) ?_ ?_ ?_; (focus (go_simp; done)); (focus rfl)) | (refine listF_no (b' := false) rfl rfl (by decide) ?_ ?_ ?_; (focus (go_simp; done)); (focus rfl)) | (refine listF_nu rfl rfl (by decide) ?_ ?_; (focus (go_simp; done))) | (refine listF_nil ?_) | (refine region_F ?_) | (refine cond_F true ?_ ?_; (focus (go_simp; done)); simp only [if_true]) | (refine cond_F false ?_ ?_; (focus (go_simp; done)); simp only [Bool.false_eq_true, if_false]) | (with_reducible go_step))
        refine wp_absw ?_
        intro wv hwv
        have kS1 : Cells wv (A + 1) [.int .i64 1, .int .i64 m, .int .i64 q.now, .int .i64 (q.now + W.rules.load + mn + W.rules.dump)] := by rw [hwv]; exact (by apply Cells.conv; (focus (repeat (first | (with_reducible exact kS) | (with_reducible apply Cells.set) | ((with_reducible apply Cells.setFar); case hn => omega) | (with_reducible apply Cells.up) | (with_reducible apply Cells.drew)))); rfl)
        have kX1 : Cells wv J11 [.int .i64 (q.jobs[m].progress + mn), .int .i64 q.jobs[m].since, .int .i64 q.jobs[m].charge, .int .i64 q.jobs[m].why, .int .i64 q.jobs[m].ended] := by rw [hwv]; exact (by apply Cells.conv; (focus (repeat (first | (with_reducible exact kX) | (with_reducible apply Cells.set) | ((with_reducible apply Cells.setFar); case hn => omega) | (with_reducible apply Cells.up) | (with_reducible apply Cells.drew)))); rfl)
        have kJ1 : Cells wv J10 [.string W.jobs[m].name, .int .i64 W.jobs[m].arrive, .int .i64 W.jobs[m].claim, .int .i64 W.jobs[m].needs] := by rw [hwv]; exact (by apply Cells.conv; (focus (repeat (first | (with_reducible exact kJ) | (with_reducible apply Cells.set) | ((with_reducible apply Cells.setFar); case hn => omega) | (with_reducible apply Cells.up) | (with_reducible apply Cells.drew)))); rfl)
        replace k0 := show Cells wv w.heap.size _ by rw [hwv]; exact (by apply Cells.conv; (focus (repeat (first | (with_reducible exact k0) | (with_reducible apply Cells.set) | ((with_reducible apply Cells.setFar); case hn => omega) | (with_reducible apply Cells.up) | (with_reducible apply Cells.drew)))); rfl)
        replace k2 : Cells wv (w.heap.size + 1 + 1) [.int .i64 0, .int .i64 0, .int .i64 0, .int .i64 0] := by rw [hwv]; exact (by apply Cells.conv; (focus (repeat (first | (with_reducible exact k2) | (with_reducible apply Cells.set) | ((with_reducible apply Cells.setFar); case hn => omega) | (with_reducible apply Cells.up) | (with_reducible apply Cells.drew)))); rfl)
        replace k3 : Cells wv (w.heap.size + 1 + 1 + 1) [.int .i64 0, .slice none 0 0] := by rw [hwv]; exact (by apply Cells.conv; (focus (repeat (first | (with_reducible exact k3) | (with_reducible apply Cells.set) | ((with_reducible apply Cells.setFar); case hn => omega) | (with_reducible apply Cells.up) | (with_reducible apply Cells.drew)))); rfl)
        replace kA : Cells wv A [.int .i64 0, .slice (some ⟨g, 0, none⟩) q.jobs.length cap] := by rw [hwv]; exact (by apply Cells.conv; (focus (repeat (first | (with_reducible exact kA) | (with_reducible apply Cells.set) | ((with_reducible apply Cells.setFar); case hn => omega) | (with_reducible apply Cells.up) | (with_reducible apply Cells.drew)))); rfl)
        replace kg : Cells wv g (q.jobs.flatMap St.cs) := by rw [hwv]; exact (by apply Cells.conv; (focus (repeat (first | (with_reducible exact kg) | (with_reducible apply Cells.set) | ((with_reducible apply Cells.setFar); case hn => omega) | (with_reducible apply Cells.up) | (with_reducible apply Cells.drew)))); rfl)
        have HBv := hid (show Below w.heap.size w wv by rw [hwv]; exact (by repeat (first | (with_reducible exact HB7.out) | (with_reducible refine bdrewN ?_ _) | (with_reducible refine Below.drew ?_) | (with_reducible refine Below.setCell ?_ (by first | omega | (simp; done) | (simp; omega)) _) | (with_reducible refine Below.alloc ?_ (by first | omega | (simp; done) | (simp; omega)) _))))
        clear hwv HB7 c00 c01 c02 q0 c10 q1 cS0 cS1 cS3 cSz cSs y0 yz ys k1
        (refine wp_abs ?_; intro s' hs'; have gl2 := congrFun hs' 2; simp only [updS_some, updS_none, Nat.reduceEqDiff, ↓reduceIte] at gl2; (try rw [sl2] at gl2); have gl3 := congrFun hs' 3; simp only [updS_some, updS_none, Nat.reduceEqDiff, ↓reduceIte] at gl3; (try rw [sl3] at gl3); have gl4 := congrFun hs' 4; simp only [updS_some, updS_none, Nat.reduceEqDiff, ↓reduceIte] at gl4; (try rw [sl4] at gl4); have gl5 := congrFun hs' 5; simp only [updS_some, updS_none, Nat.reduceEqDiff, ↓reduceIte] at gl5; (try rw [sl5] at gl5); have gl6 := congrFun hs' 6; simp only [updS_some, updS_none, Nat.reduceEqDiff, ↓reduceIte] at gl6; (try rw [sl6] at gl6); have gl7 := congrFun hs' 7; simp only [updS_some, updS_none, Nat.reduceEqDiff, ↓reduceIte] at gl7; (try rw [sl7] at gl7); have gl10 := congrFun hs' 10; simp only [updS_some, updS_none, Nat.reduceEqDiff, ↓reduceIte] at gl10; (try rw [sl10] at gl10); have gl12 := congrFun hs' 12; simp only [updS_some, updS_none, Nat.reduceEqDiff, ↓reduceIte] at gl12; (try rw [sl12] at gl12); have gl14 := congrFun hs' 14; simp only [updS_some, updS_none, Nat.reduceEqDiff, ↓reduceIte] at gl14; (try rw [sl14] at gl14); have gl15 := congrFun hs' 15; simp only [updS_some, updS_none, Nat.reduceEqDiff, ↓reduceIte] at gl15; (try rw [sl15] at gl15); clear hs'; (try clear sl2); (try clear sl3); (try clear sl4); (try clear sl5); (try clear sl6); (try clear sl7); (try clear sl10); (try clear sl12); (try clear sl14); (try clear sl15); have sl2 := gl2; clear gl2; have sl3 := gl3; clear gl3; have sl4 := gl4; clear gl4; have sl5 := gl5; clear gl5; have sl6 := gl6; clear gl6; have sl7 := gl7; clear gl7; have sl10 := gl10; clear gl10; have sl12 := gl12; clear gl12; have sl14 := gl14; clear gl14; have sl15 := gl15; clear gl15)
        rename_i KR hKR KC hKC
        have e1 : endOf W q m ≤ q.now + 660 ∧ q.now + 1 ≤ endOf W q m := by unfold endOf; rw [Hmn.out]; split <;> omega
        have hrest : ∀ (s : Nat → Value) (we : World), NSl w A s → s 10 = .int .i64 n → s 12 = .int .i64 m → s 15 = .pointer (some ⟨J11, 0, none⟩) → Cells we (A + 1) [.int .i64 (kindOf W q m), .int .i64 m, .int .i64 q.now, .int .i64 (endOf W q m)] → Cells we J11 [.int .i64 (stAfter W q m).progress, .int .i64 q.jobs[m].since, .int .i64 q.jobs[m].charge, .int .i64 (stAfter W q m).why, .int .i64 (stAfter W q m).ended] →
            Cells we w.heap.size [.int .i64 W.rules.slice, .int .i64 W.rules.load, .int .i64 W.rules.dump, .int .i64 W.rules.patience, .int .i64 W.rules.rate, .slice (some ⟨bj, oj, none⟩) W.jobs.length cj, .slice af W.faults.length cf] → Cells we (w.heap.size + 1 + 1) [.int .i64 0, .int .i64 0, .int .i64 0, .int .i64 0] → Cells we (w.heap.size + 1 + 1 + 1) [.int .i64 0, .slice none 0 0] → Cells we A [.int .i64 0, .slice (some ⟨g, 0, none⟩) q.jobs.length cap] → Cells we g (q.jobs.flatMap St.cs) → Hid (Below w.heap.size w we) → KR (mkA 245 s []) we := by
          as_aux_lemma =>
          clear hKC KC sl2 sl3 sl4 sl5 sl6 sl7 sl10 sl12 sl14 sl15 k0 k2 k3 kA kg kS1 kX1 kJ1 HBv
          rintro s we ⟨sl2, sl3, sl4, sl5, sl6, sl7⟩ sl10 sl12 sl15 kS kX k0 k2 k3 kA kg HBe
          refine hKR _ _ ?_
          have cS0 := kS.cell 0 rfl
          have cS2 := kS.cell 2 rfl
          have cS3 := kS.cell 3 rfl
          have cSz := kS.2.2
          have cSs := kS.1
          have cA0 := kA.cell 0 rfl
          have cA1 := kA.cell 1 rfl
          have cAz := kA.2.2
          have cAs := kA.1
          have c04 := k0.cell 4 rfl
          have q0 := k0.1
          by_cases hf : 0 ≤ n ∧ n < endOf W q m
          · have t1 : decide ((0 : Int) ≤ n) = true := by simp [hf.1]
            have t2 : decide (n < endOf W q m) = true := by simp [hf.2]
            have Hstep := hid (show nextStep W q = (⟨4, m, q.now, n⟩, ⟨n, q.jobs⟩) by rw [Hnext.out]; unfold runStep; rw [if_pos (by rw [← Hnf.out]; exact hf), ← Hnf.out])
            clear hf e1
            repeat (first | ((first | (refine listF_step rfl (fun K' hK => ?_)) | (refine listF_yes rfl rfl (by decide) ?_ (fun K' hK => ?_); (focus (go_simp; done)))); unfold opF; go_simp; (refine hK _ _ ?_); clear hK K') | (refine listF_no (b' := true) rfl rfl (by decide) ?_ ?_ ?_; (focus (go_simp; done)); (focus rfl)) | (refine listF_no (b' := false) rfl rfl (by decide) ?_ ?_ ?_; (focus (go_simp; done)); (focus rfl)) | (refine listF_nu rfl rfl (by decide) ?_ ?_; (focus (go_simp; done))) | (refine listF_nil ?_) | (refine region_F ?_) | (refine cond_F true ?_ ?_; (focus (go_simp; done)); simp only [if_true]) | (refine cond_F false ?_ ?_; (focus (go_simp; done)); simp only [Bool.false_eq_true, if_false]) | (with_reducible go_step))
            (refine wp_abs ?_; intro s' hs'; have gl2 := congrFun hs' 2; simp only [updS_some, updS_none, Nat.reduceEqDiff, ↓reduceIte] at gl2; (try rw [sl2] at gl2); have gl3 := congrFun hs' 3; simp only [updS_some, updS_none, Nat.reduceEqDiff, ↓reduceIte] at gl3; (try rw [sl3] at gl3); have gl4 := congrFun hs' 4; simp only [updS_some, updS_none, Nat.reduceEqDiff, ↓reduceIte] at gl4; (try rw [sl4] at gl4); have gl5 := congrFun hs' 5; simp only [updS_some, updS_none, Nat.reduceEqDiff, ↓reduceIte] at gl5; (try rw [sl5] at gl5); have gl6 := congrFun hs' 6; simp only [updS_some, updS_none, Nat.reduceEqDiff, ↓reduceIte] at gl6; (try rw [sl6] at gl6); have gl7 := congrFun hs' 7; simp only [updS_some, updS_none, Nat.reduceEqDiff, ↓reduceIte] at gl7; (try rw [sl7] at gl7); clear hs'; (try clear sl2); (try clear sl3); (try clear sl4); (try clear sl5); (try clear sl6); (try clear sl7); have sl2 := gl2; clear gl2; have sl3 := gl3; clear gl3; have sl4 := gl4; clear gl4; have sl5 := gl5; clear gl5; have sl6 := gl6; clear gl6; have sl7 := gl7; clear gl7)
            refine wp_absw ?_
            intro wv hwv
            have kA9 : Cells wv A [.int .i64 n, .slice (some ⟨g, 0, none⟩) q.jobs.length cap] := by rw [hwv]; exact (by apply Cells.conv; (focus (repeat (first | (with_reducible exact kA) | (with_reducible apply Cells.set) | ((with_reducible apply Cells.setFar); case hn => omega) | (with_reducible apply Cells.up) | (with_reducible apply Cells.drew)))); rfl)
            have kS9 : Cells wv (A + 1) [.int .i64 4, .int .i64 m, .int .i64 q.now, .int .i64 n] := by rw [hwv]; exact (by apply Cells.conv; (focus (repeat (first | (with_reducible exact kS) | (with_reducible apply Cells.set) | ((with_reducible apply Cells.setFar); case hn => omega) | (with_reducible apply Cells.up) | (with_reducible apply Cells.drew)))); rfl)
            have k29 : Cells wv (w.heap.size + 1 + 1) [.int .i64 0, .int .i64 0, .int .i64 0, .int .i64 0] := by rw [hwv]; exact (by apply Cells.conv; (focus (repeat (first | (with_reducible exact k2) | (with_reducible apply Cells.set) | ((with_reducible apply Cells.setFar); case hn => omega) | (with_reducible apply Cells.up) | (with_reducible apply Cells.drew)))); rfl)
            have k39 : Cells wv (w.heap.size + 1 + 1 + 1) [.int .i64 0, .slice none 0 0] := by rw [hwv]; exact (by apply Cells.conv; (focus (repeat (first | (with_reducible exact k3) | (with_reducible apply Cells.set) | ((with_reducible apply Cells.setFar); case hn => omega) | (with_reducible apply Cells.up) | (with_reducible apply Cells.drew)))); rfl)
            have kg9 : Cells wv g (q.jobs.flatMap St.cs) := by rw [hwv]; exact (by apply Cells.conv; (focus (repeat (first | (with_reducible exact kg) | (with_reducible apply Cells.set) | ((with_reducible apply Cells.setFar); case hn => omega) | (with_reducible apply Cells.up) | (with_reducible apply Cells.drew)))); rfl)
            have HB9 := hid (show Below w.heap.size w wv by rw [hwv]; exact (by repeat (first | (with_reducible exact HBe.out) | (with_reducible refine bdrewN ?_ _) | (with_reducible refine Below.drew ?_) | (with_reducible refine Below.setCell ?_ (by first | omega | (simp; done) | (simp; omega)) _) | (with_reducible refine Below.alloc ?_ (by first | omega | (simp; done) | (simp; omega)) _))))
            clear hwv cS0 cS2 cS3 cSz cSs cA0 cA1 cAz cAs c04 q0 kS kX k0 k2 k3 kA kg HBe
            have cS0 := kS9.cell 0 rfl
            have cS1 := kS9.cell 1 rfl
            have cS2 := kS9.cell 2 rfl
            have cS3 := kS9.cell 3 rfl
            have cA0 := kA9.cell 0 rfl
            have cA1 := kA9.cell 1 rfl
            have jS := kS9.1
            have jA := kA9.1
            have j2 := k29.1
            have j3 := k39.1
            have mS2 : ¬ (A + 1) = w.heap.size + 1 + 1 := by omega
            have mS3 : ¬ (A + 1) = w.heap.size + 1 + 1 + 1 := by omega
            have mA2 : ¬ A = w.heap.size + 1 + 1 := by omega
            have mA3 : ¬ A = w.heap.size + 1 + 1 + 1 := by omega
            have mS2' : ¬ A = w.heap.size + 1 := by omega
            have mS3' : ¬ A = w.heap.size + 1 + 1 := by omega
            refine regionR_F [(w.heap.size + 1 + 1), (w.heap.size + 1 + 1 + 1)] [[.int .i64 0, .int .i64 0, .int .i64 0, .int .i64 0], [.int .i64 0, .slice none 0 0]] [4, 5] [.q [], .q [], .st 4, .st 5] [?v5_0, ?v5_1, fun _ => undef, fun _ => undef] [fun _ => [], fun _ => [], ?c5_2, ?c5_3] (by kernel_rfl) (by kernel_rfl) (by kernel_rfl) (by kernel_rfl) (by kernel_rfl) (by first | exact List.nodup_nil | exact List.nodup_singleton _ | (simp; done) | (simp; omega)) (bc_cons (by repeat (first | (with_reducible exact k29) | (with_reducible refine Cells.drew ?_) | (with_reducible refine Cells.up ?_ _) | (with_reducible refine Cells.setFar ?_ (by omega)))) (bc_cons (by repeat (first | (with_reducible exact k39) | (with_reducible refine Cells.drew ?_) | (with_reducible refine Cells.up ?_ _) | (with_reducible refine Cells.setFar ?_ (by omega)))) bc_nil)) ?walk5 ?dep5
            case walk5 =>
              refine walkR_q (by rfl) (fun X hX wq hwq hrq => ?_) ?_
              · obtain ⟨hcq, hfq⟩ := hwq.b2
                clear hrq
                go_simp
                (first | rfl | exact ⟨rfl, rfl⟩)
              refine walkR_q (by rfl) (fun X hX wq hwq hrq => ?_) ?_
              · obtain ⟨hcq, hfq⟩ := hwq.b2
                clear hrq
                go_simp
                (first | rfl | exact ⟨rfl, rfl⟩)
              refine walkR_st (by rfl) (fun X hX wq hwq hkq => ?_) ?_
              · rw [show X 4 = (w.heap.size + 1 + 1) from hX.at0 0 _ rfl] at hkq ⊢
                replace hkq : Cells wq (w.heap.size + 1 + 1) [.int .i64 0, .int .i64 0, .int .i64 0, .int .i64 0] := hkq
                have hks := hkq.1
                have hkz := hkq.2.2
                have hk0 := hkq.cell 0 rfl
                have hk1 := hkq.cell 1 rfl
                have hk2 := hkq.cell 2 rfl
                have hk3 := hkq.cell 3 rfl
                go_simp
                (first | ((with_reducible refine writeB_mk (Cells.set hkq) ?_ ?_); (focus (repeat (first | (with_reducible exact Only.refl _ _) | (with_reducible refine Only.set ?_)))); rfl) | ((with_reducible refine writeB_mk (Cells.set (Cells.set hkq)) ?_ ?_); (focus (repeat (first | (with_reducible exact Only.refl _ _) | (with_reducible refine Only.set ?_)))); rfl) | ((with_reducible refine writeB_mk (Cells.set (Cells.set (Cells.set hkq))) ?_ ?_); (focus (repeat (first | (with_reducible exact Only.refl _ _) | (with_reducible refine Only.set ?_)))); rfl) | ((with_reducible refine writeB_mk (Cells.set (Cells.set (Cells.set (Cells.set hkq)))) ?_ ?_); (focus (repeat (first | (with_reducible exact Only.refl _ _) | (with_reducible refine Only.set ?_)))); rfl) | ((with_reducible refine writeB_mk (Cells.set (Cells.set (Cells.set (Cells.set (Cells.set hkq))))) ?_ ?_); (focus (repeat (first | (with_reducible exact Only.refl _ _) | (with_reducible refine Only.set ?_)))); rfl) | ((with_reducible refine writeB_mk (Cells.set (Cells.set (Cells.set (Cells.set (Cells.set (Cells.set hkq)))))) ?_ ?_); (focus (repeat (first | (with_reducible exact Only.refl _ _) | (with_reducible refine Only.set ?_)))); rfl) | ((with_reducible refine writeB_mk (Cells.set (Cells.set (Cells.set (Cells.set (Cells.set (Cells.set (Cells.set hkq))))))) ?_ ?_); (focus (repeat (first | (with_reducible exact Only.refl _ _) | (with_reducible refine Only.set ?_)))); rfl) | ((with_reducible refine writeB_mk (Cells.set (Cells.set (Cells.set (Cells.set (Cells.set (Cells.set (Cells.set (Cells.set hkq)))))))) ?_ ?_); (focus (repeat (first | (with_reducible exact Only.refl _ _) | (with_reducible refine Only.set ?_)))); rfl))
              refine walkR_st (by rfl) (fun X hX wq hwq hkq => ?_) ?_
              · rw [show X 5 = (w.heap.size + 1 + 1 + 1) from hX.at0 1 _ rfl] at hkq ⊢
                replace hkq : Cells wq (w.heap.size + 1 + 1 + 1) [.int .i64 0, .slice none 0 0] := hkq
                have hks := hkq.1
                have hkz := hkq.2.2
                have hk0 := hkq.cell 0 rfl
                have hk1 := hkq.cell 1 rfl
                go_simp
                (first | ((with_reducible refine writeB_mk (Cells.set hkq) ?_ ?_); (focus (repeat (first | (with_reducible exact Only.refl _ _) | (with_reducible refine Only.set ?_)))); rfl) | ((with_reducible refine writeB_mk (Cells.set (Cells.set hkq)) ?_ ?_); (focus (repeat (first | (with_reducible exact Only.refl _ _) | (with_reducible refine Only.set ?_)))); rfl) | ((with_reducible refine writeB_mk (Cells.set (Cells.set (Cells.set hkq))) ?_ ?_); (focus (repeat (first | (with_reducible exact Only.refl _ _) | (with_reducible refine Only.set ?_)))); rfl) | ((with_reducible refine writeB_mk (Cells.set (Cells.set (Cells.set (Cells.set hkq)))) ?_ ?_); (focus (repeat (first | (with_reducible exact Only.refl _ _) | (with_reducible refine Only.set ?_)))); rfl) | ((with_reducible refine writeB_mk (Cells.set (Cells.set (Cells.set (Cells.set (Cells.set hkq))))) ?_ ?_); (focus (repeat (first | (with_reducible exact Only.refl _ _) | (with_reducible refine Only.set ?_)))); rfl) | ((with_reducible refine writeB_mk (Cells.set (Cells.set (Cells.set (Cells.set (Cells.set (Cells.set hkq)))))) ?_ ?_); (focus (repeat (first | (with_reducible exact Only.refl _ _) | (with_reducible refine Only.set ?_)))); rfl) | ((with_reducible refine writeB_mk (Cells.set (Cells.set (Cells.set (Cells.set (Cells.set (Cells.set (Cells.set hkq))))))) ?_ ?_); (focus (repeat (first | (with_reducible exact Only.refl _ _) | (with_reducible refine Only.set ?_)))); rfl) | ((with_reducible refine writeB_mk (Cells.set (Cells.set (Cells.set (Cells.set (Cells.set (Cells.set (Cells.set (Cells.set hkq)))))))) ?_ ?_); (focus (repeat (first | (with_reducible exact Only.refl _ _) | (with_reducible refine Only.set ?_)))); rfl))
              refine walkR_nil (fun X hX wz hwz hcz => ?_)
              have kz0 := hcz 4 (by simp)
              rw [show X 4 = (w.heap.size + 1 + 1) from hX.at0 0 _ rfl] at kz0
              simp only [updC_some, updC_none, Nat.reduceEqDiff, ↓reduceIte] at kz0
              have kz1 := hcz 5 (by simp)
              rw [show X 5 = (w.heap.size + 1 + 1 + 1) from hX.at0 1 _ rfl] at kz1
              simp only [updC_some, updC_none, Nat.reduceEqDiff, ↓reduceIte] at kz1
              clear hX hcz
              (try clear X)
              repeat (first | ((first | (refine listF_step rfl (fun K' hK => ?_)) | (refine listF_yes rfl rfl (by decide) ?_ (fun K' hK => ?_); (focus (go_simp; done)))); unfold opF; go_simp; (refine hK _ _ ?_); clear hK K') | (refine listF_no (b' := true) rfl rfl (by decide) ?_ ?_ ?_; (focus (go_simp; done)); (focus rfl)) | (refine listF_no (b' := false) rfl rfl (by decide) ?_ ?_ ?_; (focus (go_simp; done)); (focus rfl)) | (refine listF_nu rfl rfl (by decide) ?_ ?_; (focus (go_simp; done))) | (refine listF_nil ?_) | (refine region_F ?_) | (refine cond_F true ?_ ?_; (focus (go_simp; done)); simp only [if_true]) | (refine cond_F false ?_ ?_; (focus (go_simp; done)); simp only [Bool.false_eq_true, if_false]) | (with_reducible go_step))
              refine ret_F (.tuple #[.agg #[.int .i64 4, .int .i64 m, .int .i64 q.now, .int .i64 n], .agg #[.int .i64 n, .slice (some ⟨g, 0, none⟩) q.jobs.length cap]]) (res_cc (ad := ⟨w.heap.size + 1 + 1, 0, none⟩) (ad2 := ⟨w.heap.size + 1 + 1 + 1, 0, none⟩) Try.results57 ((getD_F (by simp)).trans (by go_simp)) ((getD_F (by simp)).trans (by go_simp)) (load_spell (kz0.cell 0 rfl) (kz0.cell 1 rfl) (kz0.cell 2 rfl) (kz0.cell 3 rfl)) (load_qu (kz1.cell 0 rfl) (kz1.cell 1 rfl))) ?_
              refine ⟨g, cap, by rw [Hstep.out], by omega, ?_, HB9.out.trans (hwz.low (N := w.heap.size) (by omega) (by simp; omega))⟩
              rw [Hstep.out]
              exact Cells.rd (f := St.cs) (m := 5) (fun _ => rfl) (kg9.old hwz (by simp; omega))
            case dep5 =>
              refine depR_cons (fun X X' h => ?_) ?_
              · (first | exact ⟨rfl, rfl⟩)
              refine depR_cons (fun X X' h => ?_) ?_
              · (first | exact ⟨rfl, rfl⟩)
              refine depR_cons (fun X X' h => ?_) ?_
              · (first | exact ⟨rfl, rfl⟩)
              refine depR_cons (fun X X' h => ?_) ?_
              · (first | exact ⟨rfl, rfl⟩)
              exact depR_nil
          · have Hstep := hid (show nextStep W q = (⟨kindOf W q m, m, q.now, endOf W q m⟩, ⟨endOf W q m, q.jobs.set m (stAfter W q m)⟩) by rw [Hnext.out]; unfold runStep; rw [if_neg (by rw [← Hnf.out]; exact hf)])
            have hsince : (stAfter W q m).since = endOf W q m := rfl
            have hcharge : (stAfter W q m).charge = q.jobs[m].charge + (endOf W q m - q.now) * W.rules.rate := by show (q.st m).charge + _ = _; rw [Qu.st_eq hm]
            have Hsi := hid hsince
            have Hch := hid hcharge
            clear hsince hcharge
            have hpr : 0 ≤ (endOf W q m - q.now) * W.rules.rate ∧ (endOf W q m - q.now) * W.rules.rate ≤ 660000 := by
              constructor
              · exact Int.mul_nonneg (by omega) b8
              · have := Int.mul_le_mul (show endOf W q m - q.now ≤ 660 by omega) b9 b8 (by omega)
                omega
            have v1 : IntKind.i64.wrap (endOf W q m - q.now) = endOf W q m - q.now := IntWalk.i64_in _ (by omega)
            have v2 : IntKind.i64.wrap ((endOf W q m - q.now) * W.rules.rate) = (endOf W q m - q.now) * W.rules.rate := IntWalk.i64_in _ (by omega)
            have v3 : IntKind.i64.wrap (q.jobs[m].charge + (endOf W q m - q.now) * W.rules.rate) = q.jobs[m].charge + (endOf W q m - q.now) * W.rules.rate := IntWalk.i64_in _ (by omega)
            clear hpr
            have mX0 : ¬ w.heap.size = J11 := by omega
            have mX1 : ¬ A = J11 := by omega
            have mX2 : ¬ A + 1 = J11 := by omega
            rcases dec_or ((0 : Int) ≤ n) with t1 | t1
            · have t2 : decide (n < endOf W q m) = false := by simp at t1; simp; omega
              clear hf
              repeat (first | ((first | (refine listF_step rfl (fun K' hK => ?_)) | (refine listF_yes rfl rfl (by decide) ?_ (fun K' hK => ?_); (focus (go_simp; done)))); unfold opF; go_simp; (refine hK _ _ ?_); clear hK K') | (refine listF_no (b' := true) rfl rfl (by decide) ?_ ?_ ?_; (focus (go_simp; done)); (focus rfl)) | (refine listF_no (b' := false) rfl rfl (by decide) ?_ ?_ ?_; (focus (go_simp; done)); (focus rfl)) | (refine listF_nu rfl rfl (by decide) ?_ ?_; (focus (go_simp; done))) | (refine listF_nil ?_) | (refine region_F ?_) | (refine cond_F true ?_ ?_; (focus (go_simp; done)); simp only [if_true]) | (refine cond_F false ?_ ?_; (focus (go_simp; done)); simp only [Bool.false_eq_true, if_false]) | (with_reducible go_step))
              (refine wp_abs ?_; intro s' hs'; have gl2 := congrFun hs' 2; simp only [updS_some, updS_none, Nat.reduceEqDiff, ↓reduceIte] at gl2; (try rw [sl2] at gl2); have gl3 := congrFun hs' 3; simp only [updS_some, updS_none, Nat.reduceEqDiff, ↓reduceIte] at gl3; (try rw [sl3] at gl3); have gl4 := congrFun hs' 4; simp only [updS_some, updS_none, Nat.reduceEqDiff, ↓reduceIte] at gl4; (try rw [sl4] at gl4); have gl5 := congrFun hs' 5; simp only [updS_some, updS_none, Nat.reduceEqDiff, ↓reduceIte] at gl5; (try rw [sl5] at gl5); have gl6 := congrFun hs' 6; simp only [updS_some, updS_none, Nat.reduceEqDiff, ↓reduceIte] at gl6; (try rw [sl6] at gl6); have gl7 := congrFun hs' 7; simp only [updS_some, updS_none, Nat.reduceEqDiff, ↓reduceIte] at gl7; (try rw [sl7] at gl7); have gl10 := congrFun hs' 10; simp only [updS_some, updS_none, Nat.reduceEqDiff, ↓reduceIte] at gl10; (try rw [sl10] at gl10); have gl12 := congrFun hs' 12; simp only [updS_some, updS_none, Nat.reduceEqDiff, ↓reduceIte] at gl12; (try rw [sl12] at gl12); have gl15 := congrFun hs' 15; simp only [updS_some, updS_none, Nat.reduceEqDiff, ↓reduceIte] at gl15; (try rw [sl15] at gl15); clear hs'; (try clear sl2); (try clear sl3); (try clear sl4); (try clear sl5); (try clear sl6); (try clear sl7); (try clear sl10); (try clear sl12); (try clear sl15); have sl2 := gl2; clear gl2; have sl3 := gl3; clear gl3; have sl4 := gl4; clear gl4; have sl5 := gl5; clear gl5; have sl6 := gl6; clear gl6; have sl7 := gl7; clear gl7; have sl10 := gl10; clear gl10; have sl12 := gl12; clear gl12; have sl15 := gl15; clear gl15)
              refine regionR_F [J11] [[.int .i64 (stAfter W q m).progress, .int .i64 q.jobs[m].since, .int .i64 q.jobs[m].charge, .int .i64 (stAfter W q m).why, .int .i64 (stAfter W q m).ended]] [18] [.q [], .q [], .q [], .q [18], .q [], .q [], .q [], .q [], .q [], .q [], .q [], .q [], .q [], .q [], .q [], .st 18, .q [], .st 18] [?v6_0, ?v6_1, ?v6_2, ?v6_3, ?v6_4, ?v6_5, ?v6_6, ?v6_7, ?v6_8, ?v6_9, ?v6_10, ?v6_11, ?v6_12, ?v6_13, ?v6_14, fun _ => undef, ?v6_16, fun _ => undef] [fun _ => [], fun _ => [], fun _ => [], fun _ => [], fun _ => [], fun _ => [], fun _ => [], fun _ => [], fun _ => [], fun _ => [], fun _ => [], fun _ => [], fun _ => [], fun _ => [], fun _ => [], ?c6_15, fun _ => [], ?c6_17] (by kernel_rfl) (by kernel_rfl) (by kernel_rfl) (by kernel_rfl) (by kernel_rfl) (by first | exact List.nodup_nil | exact List.nodup_singleton _ | (simp; done) | (simp; omega)) (bc_cons (by repeat (first | (with_reducible exact kX) | (with_reducible refine Cells.drew ?_) | (with_reducible refine Cells.up ?_ _) | (with_reducible refine Cells.setFar ?_ (by omega)))) bc_nil) ?walk6 ?dep6
              case' walk6 =>
                refine walkR_q (by rfl) (fun X hX wq hwq hrq => ?_) ?_
                · obtain ⟨hcq, hfq⟩ := hwq.b1
                  clear hrq
                  go_simp
                  (first | rfl | exact ⟨rfl, rfl⟩)
                refine walkR_q (by rfl) (fun X hX wq hwq hrq => ?_) ?_
                · obtain ⟨hcq, hfq⟩ := hwq.b1
                  clear hrq
                  go_simp
                  (first | rfl | exact ⟨rfl, rfl⟩)
                refine walkR_q (by rfl) (fun X hX wq hwq hrq => ?_) ?_
                · obtain ⟨hcq, hfq⟩ := hwq.b1
                  clear hrq
                  go_simp
                  (first | rfl | exact ⟨rfl, rfl⟩)
                refine walkR_q (by rfl) (fun X hX wq hwq hrq => ?_) ?_
                · obtain ⟨hcq, hfq⟩ := hwq.b1
                  have kq18 := hrq 18 (by simp)
                  rw [show X 18 = J11 from hX.at0 0 _ rfl] at kq18
                  replace kq18 : Cells wq J11 [.int .i64 (stAfter W q m).progress, .int .i64 q.jobs[m].since, .int .i64 q.jobs[m].charge, .int .i64 (stAfter W q m).why, .int .i64 (stAfter W q m).ended] := kq18
                  have kqs18 := kq18.1
                  have kq18_0 := kq18.cell 0 rfl
                  have kq18_1 := kq18.cell 1 rfl
                  have kq18_2 := kq18.cell 2 rfl
                  have kq18_3 := kq18.cell 3 rfl
                  have kq18_4 := kq18.cell 4 rfl
                  clear hrq
                  go_simp
                  (first | rfl | exact ⟨rfl, rfl⟩)
                refine walkR_q (by rfl) (fun X hX wq hwq hrq => ?_) ?_
                · obtain ⟨hcq, hfq⟩ := hwq.b1
                  clear hrq
                  go_simp
                  (first | rfl | exact ⟨rfl, rfl⟩)
                refine walkR_q (by rfl) (fun X hX wq hwq hrq => ?_) ?_
                · obtain ⟨hcq, hfq⟩ := hwq.b1
                  clear hrq
                  go_simp
                  (first | rfl | exact ⟨rfl, rfl⟩)
                refine walkR_q (by rfl) (fun X hX wq hwq hrq => ?_) ?_
                · obtain ⟨hcq, hfq⟩ := hwq.b1
                  clear hrq
                  go_simp
                  (first | rfl | exact ⟨rfl, rfl⟩)
                refine walkR_q (by rfl) (fun X hX wq hwq hrq => ?_) ?_
                · obtain ⟨hcq, hfq⟩ := hwq.b1
                  clear hrq
                  go_simp
                  (first | rfl | exact ⟨rfl, rfl⟩)
                refine walkR_q (by rfl) (fun X hX wq hwq hrq => ?_) ?_
                · obtain ⟨hcq, hfq⟩ := hwq.b1
                  clear hrq
                  go_simp
                  (first | rfl | exact ⟨rfl, rfl⟩)
                refine walkR_q (by rfl) (fun X hX wq hwq hrq => ?_) ?_
                · obtain ⟨hcq, hfq⟩ := hwq.b1
                  clear hrq
                  go_simp
                  (first | rfl | exact ⟨rfl, rfl⟩)
                refine walkR_q (by rfl) (fun X hX wq hwq hrq => ?_) ?_
                · obtain ⟨hcq, hfq⟩ := hwq.b1
                  clear hrq
                  go_simp
                  (first | rfl | exact ⟨rfl, rfl⟩)
                refine walkR_q (by rfl) (fun X hX wq hwq hrq => ?_) ?_
                · obtain ⟨hcq, hfq⟩ := hwq.b1
                  clear hrq
                  go_simp
                  (first | rfl | exact ⟨rfl, rfl⟩)
                refine walkR_q (by rfl) (fun X hX wq hwq hrq => ?_) ?_
                · obtain ⟨hcq, hfq⟩ := hwq.b1
                  clear hrq
                  go_simp
                  (first | rfl | exact ⟨rfl, rfl⟩)
                refine walkR_q (by rfl) (fun X hX wq hwq hrq => ?_) ?_
                · obtain ⟨hcq, hfq⟩ := hwq.b1
                  clear hrq
                  go_simp
                  (first | rfl | exact ⟨rfl, rfl⟩)
                refine walkR_q (by rfl) (fun X hX wq hwq hrq => ?_) ?_
                · obtain ⟨hcq, hfq⟩ := hwq.b1
                  clear hrq
                  go_simp
                  (first | rfl | exact ⟨rfl, rfl⟩)
                refine walkR_st (by rfl) (fun X hX wq hwq hkq => ?_) ?_
                · rw [show X 18 = J11 from hX.at0 0 _ rfl] at hkq ⊢
                  replace hkq : Cells wq J11 [.int .i64 (stAfter W q m).progress, .int .i64 q.jobs[m].since, .int .i64 q.jobs[m].charge, .int .i64 (stAfter W q m).why, .int .i64 (stAfter W q m).ended] := hkq
                  have hks := hkq.1
                  have hkz := hkq.2.2
                  have hk0 := hkq.cell 0 rfl
                  have hk1 := hkq.cell 1 rfl
                  have hk2 := hkq.cell 2 rfl
                  have hk3 := hkq.cell 3 rfl
                  have hk4 := hkq.cell 4 rfl
                  go_simp
                  (first | ((with_reducible refine writeB_mk (Cells.set hkq) ?_ ?_); (focus (repeat (first | (with_reducible exact Only.refl _ _) | (with_reducible refine Only.set ?_)))); rfl) | ((with_reducible refine writeB_mk (Cells.set (Cells.set hkq)) ?_ ?_); (focus (repeat (first | (with_reducible exact Only.refl _ _) | (with_reducible refine Only.set ?_)))); rfl) | ((with_reducible refine writeB_mk (Cells.set (Cells.set (Cells.set hkq))) ?_ ?_); (focus (repeat (first | (with_reducible exact Only.refl _ _) | (with_reducible refine Only.set ?_)))); rfl) | ((with_reducible refine writeB_mk (Cells.set (Cells.set (Cells.set (Cells.set hkq)))) ?_ ?_); (focus (repeat (first | (with_reducible exact Only.refl _ _) | (with_reducible refine Only.set ?_)))); rfl) | ((with_reducible refine writeB_mk (Cells.set (Cells.set (Cells.set (Cells.set (Cells.set hkq))))) ?_ ?_); (focus (repeat (first | (with_reducible exact Only.refl _ _) | (with_reducible refine Only.set ?_)))); rfl) | ((with_reducible refine writeB_mk (Cells.set (Cells.set (Cells.set (Cells.set (Cells.set (Cells.set hkq)))))) ?_ ?_); (focus (repeat (first | (with_reducible exact Only.refl _ _) | (with_reducible refine Only.set ?_)))); rfl) | ((with_reducible refine writeB_mk (Cells.set (Cells.set (Cells.set (Cells.set (Cells.set (Cells.set (Cells.set hkq))))))) ?_ ?_); (focus (repeat (first | (with_reducible exact Only.refl _ _) | (with_reducible refine Only.set ?_)))); rfl) | ((with_reducible refine writeB_mk (Cells.set (Cells.set (Cells.set (Cells.set (Cells.set (Cells.set (Cells.set (Cells.set hkq)))))))) ?_ ?_); (focus (repeat (first | (with_reducible exact Only.refl _ _) | (with_reducible refine Only.set ?_)))); rfl))
                refine walkR_q (by rfl) (fun X hX wq hwq hrq => ?_) ?_
                · obtain ⟨hcq, hfq⟩ := hwq.b1
                  clear hrq
                  go_simp
                  (first | rfl | exact ⟨rfl, rfl⟩)
                refine walkR_st (by rfl) (fun X hX wq hwq hkq => ?_) ?_
                · rw [show X 18 = J11 from hX.at0 0 _ rfl] at hkq ⊢
                  simp only [updC_some, updC_none, Nat.reduceEqDiff, ↓reduceIte] at hkq
                  have hks := hkq.1
                  have hkz := hkq.2.2
                  have hk0 := hkq.cell 0 rfl
                  have hk1 := hkq.cell 1 rfl
                  have hk2 := hkq.cell 2 rfl
                  have hk3 := hkq.cell 3 rfl
                  have hk4 := hkq.cell 4 rfl
                  go_simp
                  (first | ((with_reducible refine writeB_mk (Cells.set hkq) ?_ ?_); (focus (repeat (first | (with_reducible exact Only.refl _ _) | (with_reducible refine Only.set ?_)))); rfl) | ((with_reducible refine writeB_mk (Cells.set (Cells.set hkq)) ?_ ?_); (focus (repeat (first | (with_reducible exact Only.refl _ _) | (with_reducible refine Only.set ?_)))); rfl) | ((with_reducible refine writeB_mk (Cells.set (Cells.set (Cells.set hkq))) ?_ ?_); (focus (repeat (first | (with_reducible exact Only.refl _ _) | (with_reducible refine Only.set ?_)))); rfl) | ((with_reducible refine writeB_mk (Cells.set (Cells.set (Cells.set (Cells.set hkq)))) ?_ ?_); (focus (repeat (first | (with_reducible exact Only.refl _ _) | (with_reducible refine Only.set ?_)))); rfl) | ((with_reducible refine writeB_mk (Cells.set (Cells.set (Cells.set (Cells.set (Cells.set hkq))))) ?_ ?_); (focus (repeat (first | (with_reducible exact Only.refl _ _) | (with_reducible refine Only.set ?_)))); rfl) | ((with_reducible refine writeB_mk (Cells.set (Cells.set (Cells.set (Cells.set (Cells.set (Cells.set hkq)))))) ?_ ?_); (focus (repeat (first | (with_reducible exact Only.refl _ _) | (with_reducible refine Only.set ?_)))); rfl) | ((with_reducible refine writeB_mk (Cells.set (Cells.set (Cells.set (Cells.set (Cells.set (Cells.set (Cells.set hkq))))))) ?_ ?_); (focus (repeat (first | (with_reducible exact Only.refl _ _) | (with_reducible refine Only.set ?_)))); rfl) | ((with_reducible refine writeB_mk (Cells.set (Cells.set (Cells.set (Cells.set (Cells.set (Cells.set (Cells.set (Cells.set hkq)))))))) ?_ ?_); (focus (repeat (first | (with_reducible exact Only.refl _ _) | (with_reducible refine Only.set ?_)))); rfl))
                refine walkR_nil (fun X hX wz hwz hcz => ?_)
                have kz0 := hcz 18 (by simp)
                rw [show X 18 = J11 from hX.at0 0 _ rfl] at kz0
                simp only [updC_some, updC_none, Nat.reduceEqDiff, ↓reduceIte] at kz0
                clear hX hcz
                (try clear X)
              case dep6 =>
                refine depR_cons (fun X X' h => ?_) ?_
                · (first | exact ⟨rfl, rfl⟩)
                refine depR_cons (fun X X' h => ?_) ?_
                · (first | exact ⟨rfl, rfl⟩)
                refine depR_cons (fun X X' h => ?_) ?_
                · (first | exact ⟨rfl, rfl⟩)
                refine depR_cons (fun X X' h => ?_) ?_
                · (first | exact ⟨rfl, rfl⟩)
                refine depR_cons (fun X X' h => ?_) ?_
                · (first | exact ⟨rfl, rfl⟩)
                refine depR_cons (fun X X' h => ?_) ?_
                · (first | exact ⟨rfl, rfl⟩)
                refine depR_cons (fun X X' h => ?_) ?_
                · (first | exact ⟨rfl, rfl⟩)
                refine depR_cons (fun X X' h => ?_) ?_
                · (first | exact ⟨rfl, rfl⟩)
                refine depR_cons (fun X X' h => ?_) ?_
                · (first | exact ⟨rfl, rfl⟩)
                refine depR_cons (fun X X' h => ?_) ?_
                · (first | exact ⟨rfl, rfl⟩)
                refine depR_cons (fun X X' h => ?_) ?_
                · (first | exact ⟨rfl, rfl⟩)
                refine depR_cons (fun X X' h => ?_) ?_
                · (first | exact ⟨rfl, rfl⟩)
                refine depR_cons (fun X X' h => ?_) ?_
                · (first | exact ⟨rfl, rfl⟩)
                refine depR_cons (fun X X' h => ?_) ?_
                · (first | exact ⟨rfl, rfl⟩)
                refine depR_cons (fun X X' h => ?_) ?_
                · (first | exact ⟨rfl, rfl⟩)
                refine depR_cons (fun X X' h => ?_) ?_
                · (first | exact ⟨rfl, rfl⟩)
                refine depR_cons (fun X X' h => ?_) ?_
                · (first | exact ⟨rfl, rfl⟩)
                refine depR_cons (fun X X' h => ?_) ?_
                · (first | exact ⟨rfl, rfl⟩)
                exact depR_nil
              have kX2 : Cells wz J11 [.int .i64 (stAfter W q m).progress, .int .i64 (endOf W q m), .int .i64 (q.jobs[m].charge + (endOf W q m - q.now) * W.rules.rate), .int .i64 (stAfter W q m).why, .int .i64 (stAfter W q m).ended] := kz0
              have kS2 := kS.old hwz (by simp; omega)
              have kA2 := kA.old hwz (by simp; omega)
              have k22 := k2.old hwz (by simp; omega)
              have k32 := k3.old hwz (by simp; omega)
              have kg2 := kg.old hwz (by simp; omega)
              have HB2 := hid (HBe.out.trans (hwz.low (N := w.heap.size) (by omega) (by simp; omega)))
              clear kz0 hwz cS0 cS2 cS3 cSz cSs cA0 cA1 cAz cAs c04 q0 kS kX k0 k2 k3 kA kg HBe
              have cS3 := kS2.cell 3 rfl
              have cSs := kS2.1
              have cA1 := kA2.cell 1 rfl
              have cAs := kA2.1
              have cX0 := kX2.cell 0 rfl
              have cX1 := kX2.cell 1 rfl
              have cX2 := kX2.cell 2 rfl
              have cX3 := kX2.cell 3 rfl
              have cX4 := kX2.cell 4 rfl
              have cXs := kX2.1
              have p1 : ¬ J11 = g := by omega
              have p2 : ¬ J11 = A := by omega
              have p3 : ¬ A + 1 = g := by omega
              have p4 : ¬ A + 1 = A := by omega
              have p5 : ¬ g = A := by omega
              have p6 : ¬ A = g := by omega
              repeat (first | ((first | (refine listF_step rfl (fun K' hK => ?_)) | (refine listF_yes rfl rfl (by decide) ?_ (fun K' hK => ?_); (focus (go_simp; done)))); unfold opF; go_simp; (refine hK _ _ ?_); clear hK K') | (refine listF_no (b' := true) rfl rfl (by decide) ?_ ?_ ?_; (focus (go_simp; done)); (focus rfl)) | (refine listF_no (b' := false) rfl rfl (by decide) ?_ ?_ ?_; (focus (go_simp; done)); (focus rfl)) | (refine listF_nu rfl rfl (by decide) ?_ ?_; (focus (go_simp; done))) | (refine listF_nil ?_) | (refine region_F ?_) | (refine cond_F true ?_ ?_; (focus (go_simp; done)); simp only [if_true]) | (refine cond_F false ?_ ?_; (focus (go_simp; done)); simp only [Bool.false_eq_true, if_false]) | (with_reducible go_step))
              (refine wp_abs ?_; intro s' hs'; have gl2 := congrFun hs' 2; simp only [updS_some, updS_none, Nat.reduceEqDiff, ↓reduceIte] at gl2; (try rw [sl2] at gl2); have gl3 := congrFun hs' 3; simp only [updS_some, updS_none, Nat.reduceEqDiff, ↓reduceIte] at gl3; (try rw [sl3] at gl3); have gl4 := congrFun hs' 4; simp only [updS_some, updS_none, Nat.reduceEqDiff, ↓reduceIte] at gl4; (try rw [sl4] at gl4); have gl5 := congrFun hs' 5; simp only [updS_some, updS_none, Nat.reduceEqDiff, ↓reduceIte] at gl5; (try rw [sl5] at gl5); have gl6 := congrFun hs' 6; simp only [updS_some, updS_none, Nat.reduceEqDiff, ↓reduceIte] at gl6; (try rw [sl6] at gl6); have gl7 := congrFun hs' 7; simp only [updS_some, updS_none, Nat.reduceEqDiff, ↓reduceIte] at gl7; (try rw [sl7] at gl7); have gl12 := congrFun hs' 12; simp only [updS_some, updS_none, Nat.reduceEqDiff, ↓reduceIte] at gl12; (try rw [sl12] at gl12); have gl15 := congrFun hs' 15; simp only [updS_some, updS_none, Nat.reduceEqDiff, ↓reduceIte] at gl15; (try rw [sl15] at gl15); clear hs'; (try clear sl2); (try clear sl3); (try clear sl4); (try clear sl5); (try clear sl6); (try clear sl7); (try clear sl12); (try clear sl15); have sl2 := gl2; clear gl2; have sl3 := gl3; clear gl3; have sl4 := gl4; clear gl4; have sl5 := gl5; clear gl5; have sl6 := gl6; clear gl6; have sl7 := gl7; clear gl7; have sl12 := gl12; clear gl12; have sl15 := gl15; clear gl15)
              refine regionR_F [g, A] [q.jobs.flatMap St.cs, [.int .i64 0, .slice (some ⟨g, 0, none⟩) q.jobs.length cap]] [10, 11] [.q [], .q [11], .q [], .q [], .q [], .q [], .q [], .st 10, .q [], .st 11] [?v7_0, ?v7_1, ?v7_2, ?v7_3, ?v7_4, ?v7_5, ?v7_6, fun _ => undef, ?v7_8, fun _ => undef] [fun _ => [], fun _ => [], fun _ => [], fun _ => [], fun _ => [], fun _ => [], fun _ => [], ?c7_7, fun _ => [], ?c7_9] (by kernel_rfl) (by kernel_rfl) (by kernel_rfl) (by kernel_rfl) (by kernel_rfl) (by first | exact List.nodup_nil | exact List.nodup_singleton _ | (simp; done) | (simp; omega)) (bc_cons (by repeat (first | (with_reducible exact kg2) | (with_reducible refine Cells.drew ?_) | (with_reducible refine Cells.up ?_ _) | (with_reducible refine Cells.setFar ?_ (by omega)))) (bc_cons (by repeat (first | (with_reducible exact kA2) | (with_reducible refine Cells.drew ?_) | (with_reducible refine Cells.up ?_ _) | (with_reducible refine Cells.setFar ?_ (by omega)))) bc_nil)) ?walk7 ?dep7
              case' walk7 =>
                refine walkR_q (by rfl) (fun X hX wq hwq hrq => ?_) ?_
                · obtain ⟨hcq, hfq⟩ := hwq.b2
                  clear hrq
                  go_simp
                  (first | rfl | exact ⟨rfl, rfl⟩)
                refine walkR_q (by rfl) (fun X hX wq hwq hrq => ?_) ?_
                · obtain ⟨hcq, hfq⟩ := hwq.b2
                  have kq11 := hrq 11 (by simp)
                  rw [show X 11 = A from hX.at0 1 _ rfl] at kq11
                  replace kq11 : Cells wq A [.int .i64 0, .slice (some ⟨g, 0, none⟩) q.jobs.length cap] := kq11
                  have kqs11 := kq11.1
                  have kq11_0 := kq11.cell 0 rfl
                  have kq11_1 := kq11.cell 1 rfl
                  clear hrq
                  go_simp
                  (first | rfl | exact ⟨rfl, rfl⟩)
                refine walkR_q (by rfl) (fun X hX wq hwq hrq => ?_) ?_
                · obtain ⟨hcq, hfq⟩ := hwq.b2
                  clear hrq
                  go_simp
                  (first | rfl | exact ⟨rfl, rfl⟩)
                refine walkR_q (by rfl) (fun X hX wq hwq hrq => ?_) ?_
                · obtain ⟨hcq, hfq⟩ := hwq.b2
                  clear hrq
                  go_simp
                  (first | rfl | exact ⟨rfl, rfl⟩)
                refine walkR_q (by rfl) (fun X hX wq hwq hrq => ?_) ?_
                · obtain ⟨hcq, hfq⟩ := hwq.b2
                  clear hrq
                  go_simp
                  (first | rfl | exact ⟨rfl, rfl⟩)
                refine walkR_q (by rfl) (fun X hX wq hwq hrq => ?_) ?_
                · obtain ⟨hcq, hfq⟩ := hwq.b2
                  clear hrq
                  go_simp
                  (first | rfl | exact ⟨rfl, rfl⟩)
                refine walkR_q (by rfl) (fun X hX wq hwq hrq => ?_) ?_
                · obtain ⟨hcq, hfq⟩ := hwq.b2
                  clear hrq
                  go_simp
                  (first | rfl | exact ⟨rfl, rfl⟩)
                refine walkR_st (by rfl) (fun X hX wq hwq hkq => ?_) ?_
                · rw [show X 10 = g from hX.at0 0 _ rfl] at hkq ⊢
                  replace hkq : Cells wq g (q.jobs.flatMap St.cs) := hkq
                  have hks := hkq.1
                  have hkz := hkq.2.2
                  have hk0 : wq.cell? ⟨g, m * 5, none⟩ = some (.int .i64 q.jobs[m].progress) := hkq.cell (m * 5) (by simpa using flat_get St.cs 5 (fun _ => rfl) q.jobs m q.jobs[m] (by simp [hm]) 0 _ rfl)
                  have hk1 : wq.cell? ⟨g, m * 5 + 1, none⟩ = some (.int .i64 q.jobs[m].since) := hkq.cell (m * 5 + 1) (by simpa using flat_get St.cs 5 (fun _ => rfl) q.jobs m q.jobs[m] (by simp [hm]) 1 _ rfl)
                  have hk2 : wq.cell? ⟨g, m * 5 + 2, none⟩ = some (.int .i64 q.jobs[m].charge) := hkq.cell (m * 5 + 2) (by simpa using flat_get St.cs 5 (fun _ => rfl) q.jobs m q.jobs[m] (by simp [hm]) 2 _ rfl)
                  have hk3 : wq.cell? ⟨g, m * 5 + 3, none⟩ = some (.int .i64 q.jobs[m].why) := hkq.cell (m * 5 + 3) (by simpa using flat_get St.cs 5 (fun _ => rfl) q.jobs m q.jobs[m] (by simp [hm]) 3 _ rfl)
                  have hk4 : wq.cell? ⟨g, m * 5 + 4, none⟩ = some (.int .i64 q.jobs[m].ended) := hkq.cell (m * 5 + 4) (by simpa using flat_get St.cs 5 (fun _ => rfl) q.jobs m q.jobs[m] (by simp [hm]) 4 _ rfl)
                  go_simp
                  (first | ((with_reducible refine writeB_mk (Cells.set hkq) ?_ ?_); (focus (repeat (first | (with_reducible exact Only.refl _ _) | (with_reducible refine Only.set ?_)))); rfl) | ((with_reducible refine writeB_mk (Cells.set (Cells.set hkq)) ?_ ?_); (focus (repeat (first | (with_reducible exact Only.refl _ _) | (with_reducible refine Only.set ?_)))); rfl) | ((with_reducible refine writeB_mk (Cells.set (Cells.set (Cells.set hkq))) ?_ ?_); (focus (repeat (first | (with_reducible exact Only.refl _ _) | (with_reducible refine Only.set ?_)))); rfl) | ((with_reducible refine writeB_mk (Cells.set (Cells.set (Cells.set (Cells.set hkq)))) ?_ ?_); (focus (repeat (first | (with_reducible exact Only.refl _ _) | (with_reducible refine Only.set ?_)))); rfl) | ((with_reducible refine writeB_mk (Cells.set (Cells.set (Cells.set (Cells.set (Cells.set hkq))))) ?_ ?_); (focus (repeat (first | (with_reducible exact Only.refl _ _) | (with_reducible refine Only.set ?_)))); rfl) | ((with_reducible refine writeB_mk (Cells.set (Cells.set (Cells.set (Cells.set (Cells.set (Cells.set hkq)))))) ?_ ?_); (focus (repeat (first | (with_reducible exact Only.refl _ _) | (with_reducible refine Only.set ?_)))); rfl) | ((with_reducible refine writeB_mk (Cells.set (Cells.set (Cells.set (Cells.set (Cells.set (Cells.set (Cells.set hkq))))))) ?_ ?_); (focus (repeat (first | (with_reducible exact Only.refl _ _) | (with_reducible refine Only.set ?_)))); rfl) | ((with_reducible refine writeB_mk (Cells.set (Cells.set (Cells.set (Cells.set (Cells.set (Cells.set (Cells.set (Cells.set hkq)))))))) ?_ ?_); (focus (repeat (first | (with_reducible exact Only.refl _ _) | (with_reducible refine Only.set ?_)))); rfl))
                refine walkR_q (by rfl) (fun X hX wq hwq hrq => ?_) ?_
                · obtain ⟨hcq, hfq⟩ := hwq.b2
                  clear hrq
                  go_simp
                  (first | rfl | exact ⟨rfl, rfl⟩)
                refine walkR_st (by rfl) (fun X hX wq hwq hkq => ?_) ?_
                · rw [show X 11 = A from hX.at0 1 _ rfl] at hkq ⊢
                  replace hkq : Cells wq A [.int .i64 0, .slice (some ⟨g, 0, none⟩) q.jobs.length cap] := hkq
                  have hks := hkq.1
                  have hkz := hkq.2.2
                  have hk0 := hkq.cell 0 rfl
                  have hk1 := hkq.cell 1 rfl
                  go_simp
                  (first | ((with_reducible refine writeB_mk (Cells.set hkq) ?_ ?_); (focus (repeat (first | (with_reducible exact Only.refl _ _) | (with_reducible refine Only.set ?_)))); rfl) | ((with_reducible refine writeB_mk (Cells.set (Cells.set hkq)) ?_ ?_); (focus (repeat (first | (with_reducible exact Only.refl _ _) | (with_reducible refine Only.set ?_)))); rfl) | ((with_reducible refine writeB_mk (Cells.set (Cells.set (Cells.set hkq))) ?_ ?_); (focus (repeat (first | (with_reducible exact Only.refl _ _) | (with_reducible refine Only.set ?_)))); rfl) | ((with_reducible refine writeB_mk (Cells.set (Cells.set (Cells.set (Cells.set hkq)))) ?_ ?_); (focus (repeat (first | (with_reducible exact Only.refl _ _) | (with_reducible refine Only.set ?_)))); rfl) | ((with_reducible refine writeB_mk (Cells.set (Cells.set (Cells.set (Cells.set (Cells.set hkq))))) ?_ ?_); (focus (repeat (first | (with_reducible exact Only.refl _ _) | (with_reducible refine Only.set ?_)))); rfl) | ((with_reducible refine writeB_mk (Cells.set (Cells.set (Cells.set (Cells.set (Cells.set (Cells.set hkq)))))) ?_ ?_); (focus (repeat (first | (with_reducible exact Only.refl _ _) | (with_reducible refine Only.set ?_)))); rfl) | ((with_reducible refine writeB_mk (Cells.set (Cells.set (Cells.set (Cells.set (Cells.set (Cells.set (Cells.set hkq))))))) ?_ ?_); (focus (repeat (first | (with_reducible exact Only.refl _ _) | (with_reducible refine Only.set ?_)))); rfl) | ((with_reducible refine writeB_mk (Cells.set (Cells.set (Cells.set (Cells.set (Cells.set (Cells.set (Cells.set (Cells.set hkq)))))))) ?_ ?_); (focus (repeat (first | (with_reducible exact Only.refl _ _) | (with_reducible refine Only.set ?_)))); rfl))
                refine walkR_nil (fun X hX wz hwz hcz => ?_)
                have kz0 := hcz 10 (by simp)
                rw [show X 10 = g from hX.at0 0 _ rfl] at kz0
                simp only [updC_some, updC_none, Nat.reduceEqDiff, ↓reduceIte] at kz0
                have kz1 := hcz 11 (by simp)
                rw [show X 11 = A from hX.at0 1 _ rfl] at kz1
                simp only [updC_some, updC_none, Nat.reduceEqDiff, ↓reduceIte] at kz1
                clear hX hcz
                (try clear X)
              case dep7 =>
                refine depR_cons (fun X X' h => ?_) ?_
                · (first | exact ⟨rfl, rfl⟩)
                refine depR_cons (fun X X' h => ?_) ?_
                · (first | exact ⟨rfl, rfl⟩)
                refine depR_cons (fun X X' h => ?_) ?_
                · (first | exact ⟨rfl, rfl⟩)
                refine depR_cons (fun X X' h => ?_) ?_
                · (first | exact ⟨rfl, rfl⟩)
                refine depR_cons (fun X X' h => ?_) ?_
                · (first | exact ⟨rfl, rfl⟩)
                refine depR_cons (fun X X' h => ?_) ?_
                · (first | exact ⟨rfl, rfl⟩)
                refine depR_cons (fun X X' h => ?_) ?_
                · (first | exact ⟨rfl, rfl⟩)
                refine depR_cons (fun X X' h => ?_) ?_
                · (first | exact ⟨rfl, rfl⟩)
                refine depR_cons (fun X X' h => ?_) ?_
                · (first | exact ⟨rfl, rfl⟩)
                refine depR_cons (fun X X' h => ?_) ?_
                · (first | exact ⟨rfl, rfl⟩)
                exact depR_nil
              have kA9 : Cells wz A [.int .i64 (endOf W q m), .slice (some ⟨g, 0, none⟩) q.jobs.length cap] := kz1
              have kg9 : Cells wz g ((q.jobs.set m (stAfter W q m)).flatMap St.cs) := by rw [flat_set5 _ _ _ hm, Hsi.out, Hch.out]; exact kz0
              have kS9 := kS2.old hwz (by simp; omega)
              have k29 := k22.old hwz (by simp; omega)
              have k39 := k32.old hwz (by simp; omega)
              have HB9 := hid (HB2.out.trans (hwz.low (N := w.heap.size) (by omega) (by simp; omega)))
              clear hwz kz0 kz1 cS3 cSs cA1 cAs cX0 cX1 cX2 cX3 cX4 cXs kX2 kS2 kA2 k22 k32 kg2 HB2
              repeat (first | ((first | (refine listF_step rfl (fun K' hK => ?_)) | (refine listF_yes rfl rfl (by decide) ?_ (fun K' hK => ?_); (focus (go_simp; done)))); unfold opF; go_simp; (refine hK _ _ ?_); clear hK K') | (refine listF_no (b' := true) rfl rfl (by decide) ?_ ?_ ?_; (focus (go_simp; done)); (focus rfl)) | (refine listF_no (b' := false) rfl rfl (by decide) ?_ ?_ ?_; (focus (go_simp; done)); (focus rfl)) | (refine listF_nu rfl rfl (by decide) ?_ ?_; (focus (go_simp; done))) | (refine listF_nil ?_) | (refine region_F ?_) | (refine cond_F true ?_ ?_; (focus (go_simp; done)); simp only [if_true]) | (refine cond_F false ?_ ?_; (focus (go_simp; done)); simp only [Bool.false_eq_true, if_false]) | (with_reducible go_step))
              (refine wp_abs ?_; intro s' hs'; have gl2 := congrFun hs' 2; simp only [updS_some, updS_none, Nat.reduceEqDiff, ↓reduceIte] at gl2; (try rw [sl2] at gl2); have gl3 := congrFun hs' 3; simp only [updS_some, updS_none, Nat.reduceEqDiff, ↓reduceIte] at gl3; (try rw [sl3] at gl3); have gl4 := congrFun hs' 4; simp only [updS_some, updS_none, Nat.reduceEqDiff, ↓reduceIte] at gl4; (try rw [sl4] at gl4); have gl5 := congrFun hs' 5; simp only [updS_some, updS_none, Nat.reduceEqDiff, ↓reduceIte] at gl5; (try rw [sl5] at gl5); have gl6 := congrFun hs' 6; simp only [updS_some, updS_none, Nat.reduceEqDiff, ↓reduceIte] at gl6; (try rw [sl6] at gl6); have gl7 := congrFun hs' 7; simp only [updS_some, updS_none, Nat.reduceEqDiff, ↓reduceIte] at gl7; (try rw [sl7] at gl7); clear hs'; (try clear sl2); (try clear sl3); (try clear sl4); (try clear sl5); (try clear sl6); (try clear sl7); have sl2 := gl2; clear gl2; have sl3 := gl3; clear gl3; have sl4 := gl4; clear gl4; have sl5 := gl5; clear gl5; have sl6 := gl6; clear gl6; have sl7 := gl7; clear gl7)
              have cS0 := kS9.cell 0 rfl
              have cS1 := kS9.cell 1 rfl
              have cS2 := kS9.cell 2 rfl
              have cS3 := kS9.cell 3 rfl
              have cA0 := kA9.cell 0 rfl
              have cA1 := kA9.cell 1 rfl
              have jS := kS9.1
              have jA := kA9.1
              have j2 := k29.1
              have j3 := k39.1
              have mS2 : ¬ (A + 1) = w.heap.size + 1 + 1 := by omega
              have mS3 : ¬ (A + 1) = w.heap.size + 1 + 1 + 1 := by omega
              have mA2 : ¬ A = w.heap.size + 1 + 1 := by omega
              have mA3 : ¬ A = w.heap.size + 1 + 1 + 1 := by omega
              have mS2' : ¬ A = w.heap.size + 1 := by omega
              have mS3' : ¬ A = w.heap.size + 1 + 1 := by omega
              refine regionR_F [(w.heap.size + 1 + 1), (w.heap.size + 1 + 1 + 1)] [[.int .i64 0, .int .i64 0, .int .i64 0, .int .i64 0], [.int .i64 0, .slice none 0 0]] [4, 5] [.q [], .q [], .st 4, .st 5] [?v8_0, ?v8_1, fun _ => undef, fun _ => undef] [fun _ => [], fun _ => [], ?c8_2, ?c8_3] (by kernel_rfl) (by kernel_rfl) (by kernel_rfl) (by kernel_rfl) (by kernel_rfl) (by first | exact List.nodup_nil | exact List.nodup_singleton _ | (simp; done) | (simp; omega)) (bc_cons (by repeat (first | (with_reducible exact k29) | (with_reducible refine Cells.drew ?_) | (with_reducible refine Cells.up ?_ _) | (with_reducible refine Cells.setFar ?_ (by omega)))) (bc_cons (by repeat (first | (with_reducible exact k39) | (with_reducible refine Cells.drew ?_) | (with_reducible refine Cells.up ?_ _) | (with_reducible refine Cells.setFar ?_ (by omega)))) bc_nil)) ?walk8 ?dep8
              case walk8 =>
                refine walkR_q (by rfl) (fun X hX wq hwq hrq => ?_) ?_
                · obtain ⟨hcq, hfq⟩ := hwq.b2
                  clear hrq
                  go_simp
                  (first | rfl | exact ⟨rfl, rfl⟩)
                refine walkR_q (by rfl) (fun X hX wq hwq hrq => ?_) ?_
                · obtain ⟨hcq, hfq⟩ := hwq.b2
                  clear hrq
                  go_simp
                  (first | rfl | exact ⟨rfl, rfl⟩)
                refine walkR_st (by rfl) (fun X hX wq hwq hkq => ?_) ?_
                · rw [show X 4 = (w.heap.size + 1 + 1) from hX.at0 0 _ rfl] at hkq ⊢
                  replace hkq : Cells wq (w.heap.size + 1 + 1) [.int .i64 0, .int .i64 0, .int .i64 0, .int .i64 0] := hkq
                  have hks := hkq.1
                  have hkz := hkq.2.2
                  have hk0 := hkq.cell 0 rfl
                  have hk1 := hkq.cell 1 rfl
                  have hk2 := hkq.cell 2 rfl
                  have hk3 := hkq.cell 3 rfl
                  go_simp
                  (first | ((with_reducible refine writeB_mk (Cells.set hkq) ?_ ?_); (focus (repeat (first | (with_reducible exact Only.refl _ _) | (with_reducible refine Only.set ?_)))); rfl) | ((with_reducible refine writeB_mk (Cells.set (Cells.set hkq)) ?_ ?_); (focus (repeat (first | (with_reducible exact Only.refl _ _) | (with_reducible refine Only.set ?_)))); rfl) | ((with_reducible refine writeB_mk (Cells.set (Cells.set (Cells.set hkq))) ?_ ?_); (focus (repeat (first | (with_reducible exact Only.refl _ _) | (with_reducible refine Only.set ?_)))); rfl) | ((with_reducible refine writeB_mk (Cells.set (Cells.set (Cells.set (Cells.set hkq)))) ?_ ?_); (focus (repeat (first | (with_reducible exact Only.refl _ _) | (with_reducible refine Only.set ?_)))); rfl) | ((with_reducible refine writeB_mk (Cells.set (Cells.set (Cells.set (Cells.set (Cells.set hkq))))) ?_ ?_); (focus (repeat (first | (with_reducible exact Only.refl _ _) | (with_reducible refine Only.set ?_)))); rfl) | ((with_reducible refine writeB_mk (Cells.set (Cells.set (Cells.set (Cells.set (Cells.set (Cells.set hkq)))))) ?_ ?_); (focus (repeat (first | (with_reducible exact Only.refl _ _) | (with_reducible refine Only.set ?_)))); rfl) | ((with_reducible refine writeB_mk (Cells.set (Cells.set (Cells.set (Cells.set (Cells.set (Cells.set (Cells.set hkq))))))) ?_ ?_); (focus (repeat (first | (with_reducible exact Only.refl _ _) | (with_reducible refine Only.set ?_)))); rfl) | ((with_reducible refine writeB_mk (Cells.set (Cells.set (Cells.set (Cells.set (Cells.set (Cells.set (Cells.set (Cells.set hkq)))))))) ?_ ?_); (focus (repeat (first | (with_reducible exact Only.refl _ _) | (with_reducible refine Only.set ?_)))); rfl))
                refine walkR_st (by rfl) (fun X hX wq hwq hkq => ?_) ?_
                · rw [show X 5 = (w.heap.size + 1 + 1 + 1) from hX.at0 1 _ rfl] at hkq ⊢
                  replace hkq : Cells wq (w.heap.size + 1 + 1 + 1) [.int .i64 0, .slice none 0 0] := hkq
                  have hks := hkq.1
                  have hkz := hkq.2.2
                  have hk0 := hkq.cell 0 rfl
                  have hk1 := hkq.cell 1 rfl
                  go_simp
                  (first | ((with_reducible refine writeB_mk (Cells.set hkq) ?_ ?_); (focus (repeat (first | (with_reducible exact Only.refl _ _) | (with_reducible refine Only.set ?_)))); rfl) | ((with_reducible refine writeB_mk (Cells.set (Cells.set hkq)) ?_ ?_); (focus (repeat (first | (with_reducible exact Only.refl _ _) | (with_reducible refine Only.set ?_)))); rfl) | ((with_reducible refine writeB_mk (Cells.set (Cells.set (Cells.set hkq))) ?_ ?_); (focus (repeat (first | (with_reducible exact Only.refl _ _) | (with_reducible refine Only.set ?_)))); rfl) | ((with_reducible refine writeB_mk (Cells.set (Cells.set (Cells.set (Cells.set hkq)))) ?_ ?_); (focus (repeat (first | (with_reducible exact Only.refl _ _) | (with_reducible refine Only.set ?_)))); rfl) | ((with_reducible refine writeB_mk (Cells.set (Cells.set (Cells.set (Cells.set (Cells.set hkq))))) ?_ ?_); (focus (repeat (first | (with_reducible exact Only.refl _ _) | (with_reducible refine Only.set ?_)))); rfl) | ((with_reducible refine writeB_mk (Cells.set (Cells.set (Cells.set (Cells.set (Cells.set (Cells.set hkq)))))) ?_ ?_); (focus (repeat (first | (with_reducible exact Only.refl _ _) | (with_reducible refine Only.set ?_)))); rfl) | ((with_reducible refine writeB_mk (Cells.set (Cells.set (Cells.set (Cells.set (Cells.set (Cells.set (Cells.set hkq))))))) ?_ ?_); (focus (repeat (first | (with_reducible exact Only.refl _ _) | (with_reducible refine Only.set ?_)))); rfl) | ((with_reducible refine writeB_mk (Cells.set (Cells.set (Cells.set (Cells.set (Cells.set (Cells.set (Cells.set (Cells.set hkq)))))))) ?_ ?_); (focus (repeat (first | (with_reducible exact Only.refl _ _) | (with_reducible refine Only.set ?_)))); rfl))
                refine walkR_nil (fun X hX wz hwz hcz => ?_)
                have kz0 := hcz 4 (by simp)
                rw [show X 4 = (w.heap.size + 1 + 1) from hX.at0 0 _ rfl] at kz0
                simp only [updC_some, updC_none, Nat.reduceEqDiff, ↓reduceIte] at kz0
                have kz1 := hcz 5 (by simp)
                rw [show X 5 = (w.heap.size + 1 + 1 + 1) from hX.at0 1 _ rfl] at kz1
                simp only [updC_some, updC_none, Nat.reduceEqDiff, ↓reduceIte] at kz1
                clear hX hcz
                (try clear X)
                repeat (first | ((first | (refine listF_step rfl (fun K' hK => ?_)) | (refine listF_yes rfl rfl (by decide) ?_ (fun K' hK => ?_); (focus (go_simp; done)))); unfold opF; go_simp; (refine hK _ _ ?_); clear hK K') | (refine listF_no (b' := true) rfl rfl (by decide) ?_ ?_ ?_; (focus (go_simp; done)); (focus rfl)) | (refine listF_no (b' := false) rfl rfl (by decide) ?_ ?_ ?_; (focus (go_simp; done)); (focus rfl)) | (refine listF_nu rfl rfl (by decide) ?_ ?_; (focus (go_simp; done))) | (refine listF_nil ?_) | (refine region_F ?_) | (refine cond_F true ?_ ?_; (focus (go_simp; done)); simp only [if_true]) | (refine cond_F false ?_ ?_; (focus (go_simp; done)); simp only [Bool.false_eq_true, if_false]) | (with_reducible go_step))
                refine ret_F (.tuple #[.agg #[.int .i64 (kindOf W q m), .int .i64 m, .int .i64 q.now, .int .i64 (endOf W q m)], .agg #[.int .i64 (endOf W q m), .slice (some ⟨g, 0, none⟩) q.jobs.length cap]]) (res_cc (ad := ⟨w.heap.size + 1 + 1, 0, none⟩) (ad2 := ⟨w.heap.size + 1 + 1 + 1, 0, none⟩) Try.results57 ((getD_F (by simp)).trans (by go_simp)) ((getD_F (by simp)).trans (by go_simp)) (load_spell (kz0.cell 0 rfl) (kz0.cell 1 rfl) (kz0.cell 2 rfl) (kz0.cell 3 rfl)) (load_qu (kz1.cell 0 rfl) (kz1.cell 1 rfl))) ?_
                refine ⟨g, cap, by rw [Hstep.out]; simp only [List.length_set], by omega, ?_, HB9.out.trans (hwz.low (N := w.heap.size) (by omega) (by simp; omega))⟩
                rw [Hstep.out]
                exact Cells.rd (f := St.cs) (m := 5) (fun _ => rfl) (kg9.old hwz (by simp; omega))
              case dep8 =>
                refine depR_cons (fun X X' h => ?_) ?_
                · (first | exact ⟨rfl, rfl⟩)
                refine depR_cons (fun X X' h => ?_) ?_
                · (first | exact ⟨rfl, rfl⟩)
                refine depR_cons (fun X X' h => ?_) ?_
                · (first | exact ⟨rfl, rfl⟩)
                refine depR_cons (fun X X' h => ?_) ?_
                · (first | exact ⟨rfl, rfl⟩)
                exact depR_nil
            · clear hf
              repeat (first | ((first | (refine listF_step rfl (fun K' hK => ?_)) | (refine listF_yes rfl rfl (by decide) ?_ (fun K' hK => ?_); (focus (go_simp; done)))); unfold opF; go_simp; (refine hK _ _ ?_); clear hK K') | (refine listF_no (b' := true) rfl rfl (by decide) ?_ ?_ ?_; (focus (go_simp; done)); (focus rfl)) | (refine listF_no (b' := false) rfl rfl (by decide) ?_ ?_ ?_; (focus (go_simp; done)); (focus rfl)) | (refine listF_nu rfl rfl (by decide) ?_ ?_; (focus (go_simp; done))) | (refine listF_nil ?_) | (refine region_F ?_) | (refine cond_F true ?_ ?_; (focus (go_simp; done)); simp only [if_true]) | (refine cond_F false ?_ ?_; (focus (go_simp; done)); simp only [Bool.false_eq_true, if_false]) | (with_reducible go_step))
              (refine wp_abs ?_; intro s' hs'; have gl2 := congrFun hs' 2; simp only [updS_some, updS_none, Nat.reduceEqDiff, ↓reduceIte] at gl2; (try rw [sl2] at gl2); have gl3 := congrFun hs' 3; simp only [updS_some, updS_none, Nat.reduceEqDiff, ↓reduceIte] at gl3; (try rw [sl3] at gl3); have gl4 := congrFun hs' 4; simp only [updS_some, updS_none, Nat.reduceEqDiff, ↓reduceIte] at gl4; (try rw [sl4] at gl4); have gl5 := congrFun hs' 5; simp only [updS_some, updS_none, Nat.reduceEqDiff, ↓reduceIte] at gl5; (try rw [sl5] at gl5); have gl6 := congrFun hs' 6; simp only [updS_some, updS_none, Nat.reduceEqDiff, ↓reduceIte] at gl6; (try rw [sl6] at gl6); have gl7 := congrFun hs' 7; simp only [updS_some, updS_none, Nat.reduceEqDiff, ↓reduceIte] at gl7; (try rw [sl7] at gl7); have gl10 := congrFun hs' 10; simp only [updS_some, updS_none, Nat.reduceEqDiff, ↓reduceIte] at gl10; (try rw [sl10] at gl10); have gl12 := congrFun hs' 12; simp only [updS_some, updS_none, Nat.reduceEqDiff, ↓reduceIte] at gl12; (try rw [sl12] at gl12); have gl15 := congrFun hs' 15; simp only [updS_some, updS_none, Nat.reduceEqDiff, ↓reduceIte] at gl15; (try rw [sl15] at gl15); clear hs'; (try clear sl2); (try clear sl3); (try clear sl4); (try clear sl5); (try clear sl6); (try clear sl7); (try clear sl10); (try clear sl12); (try clear sl15); have sl2 := gl2; clear gl2; have sl3 := gl3; clear gl3; have sl4 := gl4; clear gl4; have sl5 := gl5; clear gl5; have sl6 := gl6; clear gl6; have sl7 := gl7; clear gl7; have sl10 := gl10; clear gl10; have sl12 := gl12; clear gl12; have sl15 := gl15; clear gl15)
              refine regionR_F [J11] [[.int .i64 (stAfter W q m).progress, .int .i64 q.jobs[m].since, .int .i64 q.jobs[m].charge, .int .i64 (stAfter W q m).why, .int .i64 (stAfter W q m).ended]] [18] [.q [], .q [], .q [], .q [18], .q [], .q [], .q [], .q [], .q [], .q [], .q [], .q [], .q [], .q [], .q [], .st 18, .q [], .st 18] [?v9_0, ?v9_1, ?v9_2, ?v9_3, ?v9_4, ?v9_5, ?v9_6, ?v9_7, ?v9_8, ?v9_9, ?v9_10, ?v9_11, ?v9_12, ?v9_13, ?v9_14, fun _ => undef, ?v9_16, fun _ => undef] [fun _ => [], fun _ => [], fun _ => [], fun _ => [], fun _ => [], fun _ => [], fun _ => [], fun _ => [], fun _ => [], fun _ => [], fun _ => [], fun _ => [], fun _ => [], fun _ => [], fun _ => [], ?c9_15, fun _ => [], ?c9_17] (by kernel_rfl) (by kernel_rfl) (by kernel_rfl) (by kernel_rfl) (by kernel_rfl) (by first | exact List.nodup_nil | exact List.nodup_singleton _ | (simp; done) | (simp; omega)) (bc_cons (by repeat (first | (with_reducible exact kX) | (with_reducible refine Cells.drew ?_) | (with_reducible refine Cells.up ?_ _) | (with_reducible refine Cells.setFar ?_ (by omega)))) bc_nil) ?walk9 ?dep9
              case' walk9 =>
                refine walkR_q (by rfl) (fun X hX wq hwq hrq => ?_) ?_
                · obtain ⟨hcq, hfq⟩ := hwq.b1
                  clear hrq
                  go_simp
                  (first | rfl | exact ⟨rfl, rfl⟩)
                refine walkR_q (by rfl) (fun X hX wq hwq hrq => ?_) ?_
                · obtain ⟨hcq, hfq⟩ := hwq.b1
                  clear hrq
                  go_simp
                  (first | rfl | exact ⟨rfl, rfl⟩)
                refine walkR_q (by rfl) (fun X hX wq hwq hrq => ?_) ?_
                · obtain ⟨hcq, hfq⟩ := hwq.b1
                  clear hrq
                  go_simp
                  (first | rfl | exact ⟨rfl, rfl⟩)
                refine walkR_q (by rfl) (fun X hX wq hwq hrq => ?_) ?_
                · obtain ⟨hcq, hfq⟩ := hwq.b1
                  have kq18 := hrq 18 (by simp)
                  rw [show X 18 = J11 from hX.at0 0 _ rfl] at kq18
                  replace kq18 : Cells wq J11 [.int .i64 (stAfter W q m).progress, .int .i64 q.jobs[m].since, .int .i64 q.jobs[m].charge, .int .i64 (stAfter W q m).why, .int .i64 (stAfter W q m).ended] := kq18
                  have kqs18 := kq18.1
                  have kq18_0 := kq18.cell 0 rfl
                  have kq18_1 := kq18.cell 1 rfl
                  have kq18_2 := kq18.cell 2 rfl
                  have kq18_3 := kq18.cell 3 rfl
                  have kq18_4 := kq18.cell 4 rfl
                  clear hrq
                  go_simp
                  (first | rfl | exact ⟨rfl, rfl⟩)
                refine walkR_q (by rfl) (fun X hX wq hwq hrq => ?_) ?_
                · obtain ⟨hcq, hfq⟩ := hwq.b1
                  clear hrq
                  go_simp
                  (first | rfl | exact ⟨rfl, rfl⟩)
                refine walkR_q (by rfl) (fun X hX wq hwq hrq => ?_) ?_
                · obtain ⟨hcq, hfq⟩ := hwq.b1
                  clear hrq
                  go_simp
                  (first | rfl | exact ⟨rfl, rfl⟩)
                refine walkR_q (by rfl) (fun X hX wq hwq hrq => ?_) ?_
                · obtain ⟨hcq, hfq⟩ := hwq.b1
                  clear hrq
                  go_simp
                  (first | rfl | exact ⟨rfl, rfl⟩)
                refine walkR_q (by rfl) (fun X hX wq hwq hrq => ?_) ?_
                · obtain ⟨hcq, hfq⟩ := hwq.b1
                  clear hrq
                  go_simp
                  (first | rfl | exact ⟨rfl, rfl⟩)
                refine walkR_q (by rfl) (fun X hX wq hwq hrq => ?_) ?_
                · obtain ⟨hcq, hfq⟩ := hwq.b1
                  clear hrq
                  go_simp
                  (first | rfl | exact ⟨rfl, rfl⟩)
                refine walkR_q (by rfl) (fun X hX wq hwq hrq => ?_) ?_
                · obtain ⟨hcq, hfq⟩ := hwq.b1
                  clear hrq
                  go_simp
                  (first | rfl | exact ⟨rfl, rfl⟩)
                refine walkR_q (by rfl) (fun X hX wq hwq hrq => ?_) ?_
                · obtain ⟨hcq, hfq⟩ := hwq.b1
                  clear hrq
                  go_simp
                  (first | rfl | exact ⟨rfl, rfl⟩)
                refine walkR_q (by rfl) (fun X hX wq hwq hrq => ?_) ?_
                · obtain ⟨hcq, hfq⟩ := hwq.b1
                  clear hrq
                  go_simp
                  (first | rfl | exact ⟨rfl, rfl⟩)
                refine walkR_q (by rfl) (fun X hX wq hwq hrq => ?_) ?_
                · obtain ⟨hcq, hfq⟩ := hwq.b1
                  clear hrq
                  go_simp
                  (first | rfl | exact ⟨rfl, rfl⟩)
                refine walkR_q (by rfl) (fun X hX wq hwq hrq => ?_) ?_
                · obtain ⟨hcq, hfq⟩ := hwq.b1
                  clear hrq
                  go_simp
                  (first | rfl | exact ⟨rfl, rfl⟩)
                refine walkR_q (by rfl) (fun X hX wq hwq hrq => ?_) ?_
                · obtain ⟨hcq, hfq⟩ := hwq.b1
                  clear hrq
                  go_simp
                  (first | rfl | exact ⟨rfl, rfl⟩)
                refine walkR_st (by rfl) (fun X hX wq hwq hkq => ?_) ?_
                · rw [show X 18 = J11 from hX.at0 0 _ rfl] at hkq ⊢
                  replace hkq : Cells wq J11 [.int .i64 (stAfter W q m).progress, .int .i64 q.jobs[m].since, .int .i64 q.jobs[m].charge, .int .i64 (stAfter W q m).why, .int .i64 (stAfter W q m).ended] := hkq
                  have hks := hkq.1
                  have hkz := hkq.2.2
                  have hk0 := hkq.cell 0 rfl
                  have hk1 := hkq.cell 1 rfl
                  have hk2 := hkq.cell 2 rfl
                  have hk3 := hkq.cell 3 rfl
                  have hk4 := hkq.cell 4 rfl
                  go_simp
                  (first | ((with_reducible refine writeB_mk (Cells.set hkq) ?_ ?_); (focus (repeat (first | (with_reducible exact Only.refl _ _) | (with_reducible refine Only.set ?_)))); rfl) | ((with_reducible refine writeB_mk (Cells.set (Cells.set hkq)) ?_ ?_); (focus (repeat (first | (with_reducible exact Only.refl _ _) | (with_reducible refine Only.set ?_)))); rfl) | ((with_reducible refine writeB_mk (Cells.set (Cells.set (Cells.set hkq))) ?_ ?_); (focus (repeat (first | (with_reducible exact Only.refl _ _) | (with_reducible refine Only.set ?_)))); rfl) | ((with_reducible refine writeB_mk (Cells.set (Cells.set (Cells.set (Cells.set hkq)))) ?_ ?_); (focus (repeat (first | (with_reducible exact Only.refl _ _) | (with_reducible refine Only.set ?_)))); rfl) | ((with_reducible refine writeB_mk (Cells.set (Cells.set (Cells.set (Cells.set (Cells.set hkq))))) ?_ ?_); (focus (repeat (first | (with_reducible exact Only.refl _ _) | (with_reducible refine Only.set ?_)))); rfl) | ((with_reducible refine writeB_mk (Cells.set (Cells.set (Cells.set (Cells.set (Cells.set (Cells.set hkq)))))) ?_ ?_); (focus (repeat (first | (with_reducible exact Only.refl _ _) | (with_reducible refine Only.set ?_)))); rfl) | ((with_reducible refine writeB_mk (Cells.set (Cells.set (Cells.set (Cells.set (Cells.set (Cells.set (Cells.set hkq))))))) ?_ ?_); (focus (repeat (first | (with_reducible exact Only.refl _ _) | (with_reducible refine Only.set ?_)))); rfl) | ((with_reducible refine writeB_mk (Cells.set (Cells.set (Cells.set (Cells.set (Cells.set (Cells.set (Cells.set (Cells.set hkq)))))))) ?_ ?_); (focus (repeat (first | (with_reducible exact Only.refl _ _) | (with_reducible refine Only.set ?_)))); rfl))
                refine walkR_q (by rfl) (fun X hX wq hwq hrq => ?_) ?_
                · obtain ⟨hcq, hfq⟩ := hwq.b1
                  clear hrq
                  go_simp
                  (first | rfl | exact ⟨rfl, rfl⟩)
                refine walkR_st (by rfl) (fun X hX wq hwq hkq => ?_) ?_
                · rw [show X 18 = J11 from hX.at0 0 _ rfl] at hkq ⊢
                  simp only [updC_some, updC_none, Nat.reduceEqDiff, ↓reduceIte] at hkq
                  have hks := hkq.1
                  have hkz := hkq.2.2
                  have hk0 := hkq.cell 0 rfl
                  have hk1 := hkq.cell 1 rfl
                  have hk2 := hkq.cell 2 rfl
                  have hk3 := hkq.cell 3 rfl
                  have hk4 := hkq.cell 4 rfl
                  go_simp
                  (first | ((with_reducible refine writeB_mk (Cells.set hkq) ?_ ?_); (focus (repeat (first | (with_reducible exact Only.refl _ _) | (with_reducible refine Only.set ?_)))); rfl) | ((with_reducible refine writeB_mk (Cells.set (Cells.set hkq)) ?_ ?_); (focus (repeat (first | (with_reducible exact Only.refl _ _) | (with_reducible refine Only.set ?_)))); rfl) | ((with_reducible refine writeB_mk (Cells.set (Cells.set (Cells.set hkq))) ?_ ?_); (focus (repeat (first | (with_reducible exact Only.refl _ _) | (with_reducible refine Only.set ?_)))); rfl) | ((with_reducible refine writeB_mk (Cells.set (Cells.set (Cells.set (Cells.set hkq)))) ?_ ?_); (focus (repeat (first | (with_reducible exact Only.refl _ _) | (with_reducible refine Only.set ?_)))); rfl) | ((with_reducible refine writeB_mk (Cells.set (Cells.set (Cells.set (Cells.set (Cells.set hkq))))) ?_ ?_); (focus (repeat (first | (with_reducible exact Only.refl _ _) | (with_reducible refine Only.set ?_)))); rfl) | ((with_reducible refine writeB_mk (Cells.set (Cells.set (Cells.set (Cells.set (Cells.set (Cells.set hkq)))))) ?_ ?_); (focus (repeat (first | (with_reducible exact Only.refl _ _) | (with_reducible refine Only.set ?_)))); rfl) | ((with_reducible refine writeB_mk (Cells.set (Cells.set (Cells.set (Cells.set (Cells.set (Cells.set (Cells.set hkq))))))) ?_ ?_); (focus (repeat (first | (with_reducible exact Only.refl _ _) | (with_reducible refine Only.set ?_)))); rfl) | ((with_reducible refine writeB_mk (Cells.set (Cells.set (Cells.set (Cells.set (Cells.set (Cells.set (Cells.set (Cells.set hkq)))))))) ?_ ?_); (focus (repeat (first | (with_reducible exact Only.refl _ _) | (with_reducible refine Only.set ?_)))); rfl))
                refine walkR_nil (fun X hX wz hwz hcz => ?_)
                have kz0 := hcz 18 (by simp)
                rw [show X 18 = J11 from hX.at0 0 _ rfl] at kz0
                simp only [updC_some, updC_none, Nat.reduceEqDiff, ↓reduceIte] at kz0
                clear hX hcz
                (try clear X)
              case dep9 =>
                refine depR_cons (fun X X' h => ?_) ?_
                · (first | exact ⟨rfl, rfl⟩)
                refine depR_cons (fun X X' h => ?_) ?_
                · (first | exact ⟨rfl, rfl⟩)
                refine depR_cons (fun X X' h => ?_) ?_
                · (first | exact ⟨rfl, rfl⟩)
                refine depR_cons (fun X X' h => ?_) ?_
                · (first | exact ⟨rfl, rfl⟩)
                refine depR_cons (fun X X' h => ?_) ?_
                · (first | exact ⟨rfl, rfl⟩)
                refine depR_cons (fun X X' h => ?_) ?_
                · (first | exact ⟨rfl, rfl⟩)
                refine depR_cons (fun X X' h => ?_) ?_
                · (first | exact ⟨rfl, rfl⟩)
                refine depR_cons (fun X X' h => ?_) ?_
                · (first | exact ⟨rfl, rfl⟩)
                refine depR_cons (fun X X' h => ?_) ?_
                · (first | exact ⟨rfl, rfl⟩)
                refine depR_cons (fun X X' h => ?_) ?_
                · (first | exact ⟨rfl, rfl⟩)
                refine depR_cons (fun X X' h => ?_) ?_
                · (first | exact ⟨rfl, rfl⟩)
                refine depR_cons (fun X X' h => ?_) ?_
                · (first | exact ⟨rfl, rfl⟩)
                refine depR_cons (fun X X' h => ?_) ?_
                · (first | exact ⟨rfl, rfl⟩)
                refine depR_cons (fun X X' h => ?_) ?_
                · (first | exact ⟨rfl, rfl⟩)
                refine depR_cons (fun X X' h => ?_) ?_
                · (first | exact ⟨rfl, rfl⟩)
                refine depR_cons (fun X X' h => ?_) ?_
                · (first | exact ⟨rfl, rfl⟩)
                refine depR_cons (fun X X' h => ?_) ?_
                · (first | exact ⟨rfl, rfl⟩)
                refine depR_cons (fun X X' h => ?_) ?_
                · (first | exact ⟨rfl, rfl⟩)
                exact depR_nil
              have kX2 : Cells wz J11 [.int .i64 (stAfter W q m).progress, .int .i64 (endOf W q m), .int .i64 (q.jobs[m].charge + (endOf W q m - q.now) * W.rules.rate), .int .i64 (stAfter W q m).why, .int .i64 (stAfter W q m).ended] := kz0
              have kS2 := kS.old hwz (by simp; omega)
              have kA2 := kA.old hwz (by simp; omega)
              have k22 := k2.old hwz (by simp; omega)
              have k32 := k3.old hwz (by simp; omega)
              have kg2 := kg.old hwz (by simp; omega)
              have HB2 := hid (HBe.out.trans (hwz.low (N := w.heap.size) (by omega) (by simp; omega)))
              clear kz0 hwz cS0 cS2 cS3 cSz cSs cA0 cA1 cAz cAs c04 q0 kS kX k0 k2 k3 kA kg HBe
              have cS3 := kS2.cell 3 rfl
              have cSs := kS2.1
              have cA1 := kA2.cell 1 rfl
              have cAs := kA2.1
              have cX0 := kX2.cell 0 rfl
              have cX1 := kX2.cell 1 rfl
              have cX2 := kX2.cell 2 rfl
              have cX3 := kX2.cell 3 rfl
              have cX4 := kX2.cell 4 rfl
              have cXs := kX2.1
              have p1 : ¬ J11 = g := by omega
              have p2 : ¬ J11 = A := by omega
              have p3 : ¬ A + 1 = g := by omega
              have p4 : ¬ A + 1 = A := by omega
              have p5 : ¬ g = A := by omega
              have p6 : ¬ A = g := by omega
              repeat (first | ((first | (refine listF_step rfl (fun K' hK => ?_)) | (refine listF_yes rfl rfl (by decide) ?_ (fun K' hK => ?_); (focus (go_simp; done)))); unfold opF; go_simp; (refine hK _ _ ?_); clear hK K') | (refine listF_no (b' := true) rfl rfl (by decide) ?_ ?_ ?_; (focus (go_simp; done)); (focus rfl)) | (refine listF_no (b' := false) rfl rfl (by decide) ?_ ?_ ?_; (focus (go_simp; done)); (focus rfl)) | (refine listF_nu rfl rfl (by decide) ?_ ?_; (focus (go_simp; done))) | (refine listF_nil ?_) | (refine region_F ?_) | (refine cond_F true ?_ ?_; (focus (go_simp; done)); simp only [if_true]) | (refine cond_F false ?_ ?_; (focus (go_simp; done)); simp only [Bool.false_eq_true, if_false]) | (with_reducible go_step))
              (refine wp_abs ?_; intro s' hs'; have gl2 := congrFun hs' 2; simp only [updS_some, updS_none, Nat.reduceEqDiff, ↓reduceIte] at gl2; (try rw [sl2] at gl2); have gl3 := congrFun hs' 3; simp only [updS_some, updS_none, Nat.reduceEqDiff, ↓reduceIte] at gl3; (try rw [sl3] at gl3); have gl4 := congrFun hs' 4; simp only [updS_some, updS_none, Nat.reduceEqDiff, ↓reduceIte] at gl4; (try rw [sl4] at gl4); have gl5 := congrFun hs' 5; simp only [updS_some, updS_none, Nat.reduceEqDiff, ↓reduceIte] at gl5; (try rw [sl5] at gl5); have gl6 := congrFun hs' 6; simp only [updS_some, updS_none, Nat.reduceEqDiff, ↓reduceIte] at gl6; (try rw [sl6] at gl6); have gl7 := congrFun hs' 7; simp only [updS_some, updS_none, Nat.reduceEqDiff, ↓reduceIte] at gl7; (try rw [sl7] at gl7); have gl12 := congrFun hs' 12; simp only [updS_some, updS_none, Nat.reduceEqDiff, ↓reduceIte] at gl12; (try rw [sl12] at gl12); have gl15 := congrFun hs' 15; simp only [updS_some, updS_none, Nat.reduceEqDiff, ↓reduceIte] at gl15; (try rw [sl15] at gl15); clear hs'; (try clear sl2); (try clear sl3); (try clear sl4); (try clear sl5); (try clear sl6); (try clear sl7); (try clear sl12); (try clear sl15); have sl2 := gl2; clear gl2; have sl3 := gl3; clear gl3; have sl4 := gl4; clear gl4; have sl5 := gl5; clear gl5; have sl6 := gl6; clear gl6; have sl7 := gl7; clear gl7; have sl12 := gl12; clear gl12; have sl15 := gl15; clear gl15)
              refine regionR_F [g, A] [q.jobs.flatMap St.cs, [.int .i64 0, .slice (some ⟨g, 0, none⟩) q.jobs.length cap]] [10, 11] [.q [], .q [11], .q [], .q [], .q [], .q [], .q [], .st 10, .q [], .st 11] [?v10_0, ?v10_1, ?v10_2, ?v10_3, ?v10_4, ?v10_5, ?v10_6, fun _ => undef, ?v10_8, fun _ => undef] [fun _ => [], fun _ => [], fun _ => [], fun _ => [], fun _ => [], fun _ => [], fun _ => [], ?c10_7, fun _ => [], ?c10_9] (by kernel_rfl) (by kernel_rfl) (by kernel_rfl) (by kernel_rfl) (by kernel_rfl) (by first | exact List.nodup_nil | exact List.nodup_singleton _ | (simp; done) | (simp; omega)) (bc_cons (by repeat (first | (with_reducible exact kg2) | (with_reducible refine Cells.drew ?_) | (with_reducible refine Cells.up ?_ _) | (with_reducible refine Cells.setFar ?_ (by omega)))) (bc_cons (by repeat (first | (with_reducible exact kA2) | (with_reducible refine Cells.drew ?_) | (with_reducible refine Cells.up ?_ _) | (with_reducible refine Cells.setFar ?_ (by omega)))) bc_nil)) ?walk10 ?dep10
              case' walk10 =>
                refine walkR_q (by rfl) (fun X hX wq hwq hrq => ?_) ?_
                · obtain ⟨hcq, hfq⟩ := hwq.b2
                  clear hrq
                  go_simp
                  (first | rfl | exact ⟨rfl, rfl⟩)
                refine walkR_q (by rfl) (fun X hX wq hwq hrq => ?_) ?_
                · obtain ⟨hcq, hfq⟩ := hwq.b2
                  have kq11 := hrq 11 (by simp)
                  rw [show X 11 = A from hX.at0 1 _ rfl] at kq11
                  replace kq11 : Cells wq A [.int .i64 0, .slice (some ⟨g, 0, none⟩) q.jobs.length cap] := kq11
                  have kqs11 := kq11.1
                  have kq11_0 := kq11.cell 0 rfl
                  have kq11_1 := kq11.cell 1 rfl
                  clear hrq
                  go_simp
                  (first | rfl | exact ⟨rfl, rfl⟩)
                refine walkR_q (by rfl) (fun X hX wq hwq hrq => ?_) ?_
                · obtain ⟨hcq, hfq⟩ := hwq.b2
                  clear hrq
                  go_simp
                  (first | rfl | exact ⟨rfl, rfl⟩)
                refine walkR_q (by rfl) (fun X hX wq hwq hrq => ?_) ?_
                · obtain ⟨hcq, hfq⟩ := hwq.b2
                  clear hrq
                  go_simp
                  (first | rfl | exact ⟨rfl, rfl⟩)
                refine walkR_q (by rfl) (fun X hX wq hwq hrq => ?_) ?_
                · obtain ⟨hcq, hfq⟩ := hwq.b2
                  clear hrq
                  go_simp
                  (first | rfl | exact ⟨rfl, rfl⟩)
                refine walkR_q (by rfl) (fun X hX wq hwq hrq => ?_) ?_
                · obtain ⟨hcq, hfq⟩ := hwq.b2
                  clear hrq
                  go_simp
                  (first | rfl | exact ⟨rfl, rfl⟩)
                refine walkR_q (by rfl) (fun X hX wq hwq hrq => ?_) ?_
                · obtain ⟨hcq, hfq⟩ := hwq.b2
                  clear hrq
                  go_simp
                  (first | rfl | exact ⟨rfl, rfl⟩)
                refine walkR_st (by rfl) (fun X hX wq hwq hkq => ?_) ?_
                · rw [show X 10 = g from hX.at0 0 _ rfl] at hkq ⊢
                  replace hkq : Cells wq g (q.jobs.flatMap St.cs) := hkq
                  have hks := hkq.1
                  have hkz := hkq.2.2
                  have hk0 : wq.cell? ⟨g, m * 5, none⟩ = some (.int .i64 q.jobs[m].progress) := hkq.cell (m * 5) (by simpa using flat_get St.cs 5 (fun _ => rfl) q.jobs m q.jobs[m] (by simp [hm]) 0 _ rfl)
                  have hk1 : wq.cell? ⟨g, m * 5 + 1, none⟩ = some (.int .i64 q.jobs[m].since) := hkq.cell (m * 5 + 1) (by simpa using flat_get St.cs 5 (fun _ => rfl) q.jobs m q.jobs[m] (by simp [hm]) 1 _ rfl)
                  have hk2 : wq.cell? ⟨g, m * 5 + 2, none⟩ = some (.int .i64 q.jobs[m].charge) := hkq.cell (m * 5 + 2) (by simpa using flat_get St.cs 5 (fun _ => rfl) q.jobs m q.jobs[m] (by simp [hm]) 2 _ rfl)
                  have hk3 : wq.cell? ⟨g, m * 5 + 3, none⟩ = some (.int .i64 q.jobs[m].why) := hkq.cell (m * 5 + 3) (by simpa using flat_get St.cs 5 (fun _ => rfl) q.jobs m q.jobs[m] (by simp [hm]) 3 _ rfl)
                  have hk4 : wq.cell? ⟨g, m * 5 + 4, none⟩ = some (.int .i64 q.jobs[m].ended) := hkq.cell (m * 5 + 4) (by simpa using flat_get St.cs 5 (fun _ => rfl) q.jobs m q.jobs[m] (by simp [hm]) 4 _ rfl)
                  go_simp
                  (first | ((with_reducible refine writeB_mk (Cells.set hkq) ?_ ?_); (focus (repeat (first | (with_reducible exact Only.refl _ _) | (with_reducible refine Only.set ?_)))); rfl) | ((with_reducible refine writeB_mk (Cells.set (Cells.set hkq)) ?_ ?_); (focus (repeat (first | (with_reducible exact Only.refl _ _) | (with_reducible refine Only.set ?_)))); rfl) | ((with_reducible refine writeB_mk (Cells.set (Cells.set (Cells.set hkq))) ?_ ?_); (focus (repeat (first | (with_reducible exact Only.refl _ _) | (with_reducible refine Only.set ?_)))); rfl) | ((with_reducible refine writeB_mk (Cells.set (Cells.set (Cells.set (Cells.set hkq)))) ?_ ?_); (focus (repeat (first | (with_reducible exact Only.refl _ _) | (with_reducible refine Only.set ?_)))); rfl) | ((with_reducible refine writeB_mk (Cells.set (Cells.set (Cells.set (Cells.set (Cells.set hkq))))) ?_ ?_); (focus (repeat (first | (with_reducible exact Only.refl _ _) | (with_reducible refine Only.set ?_)))); rfl) | ((with_reducible refine writeB_mk (Cells.set (Cells.set (Cells.set (Cells.set (Cells.set (Cells.set hkq)))))) ?_ ?_); (focus (repeat (first | (with_reducible exact Only.refl _ _) | (with_reducible refine Only.set ?_)))); rfl) | ((with_reducible refine writeB_mk (Cells.set (Cells.set (Cells.set (Cells.set (Cells.set (Cells.set (Cells.set hkq))))))) ?_ ?_); (focus (repeat (first | (with_reducible exact Only.refl _ _) | (with_reducible refine Only.set ?_)))); rfl) | ((with_reducible refine writeB_mk (Cells.set (Cells.set (Cells.set (Cells.set (Cells.set (Cells.set (Cells.set (Cells.set hkq)))))))) ?_ ?_); (focus (repeat (first | (with_reducible exact Only.refl _ _) | (with_reducible refine Only.set ?_)))); rfl))
                refine walkR_q (by rfl) (fun X hX wq hwq hrq => ?_) ?_
                · obtain ⟨hcq, hfq⟩ := hwq.b2
                  clear hrq
                  go_simp
                  (first | rfl | exact ⟨rfl, rfl⟩)
                refine walkR_st (by rfl) (fun X hX wq hwq hkq => ?_) ?_
                · rw [show X 11 = A from hX.at0 1 _ rfl] at hkq ⊢
                  replace hkq : Cells wq A [.int .i64 0, .slice (some ⟨g, 0, none⟩) q.jobs.length cap] := hkq
                  have hks := hkq.1
                  have hkz := hkq.2.2
                  have hk0 := hkq.cell 0 rfl
                  have hk1 := hkq.cell 1 rfl
                  go_simp
                  (first | ((with_reducible refine writeB_mk (Cells.set hkq) ?_ ?_); (focus (repeat (first | (with_reducible exact Only.refl _ _) | (with_reducible refine Only.set ?_)))); rfl) | ((with_reducible refine writeB_mk (Cells.set (Cells.set hkq)) ?_ ?_); (focus (repeat (first | (with_reducible exact Only.refl _ _) | (with_reducible refine Only.set ?_)))); rfl) | ((with_reducible refine writeB_mk (Cells.set (Cells.set (Cells.set hkq))) ?_ ?_); (focus (repeat (first | (with_reducible exact Only.refl _ _) | (with_reducible refine Only.set ?_)))); rfl) | ((with_reducible refine writeB_mk (Cells.set (Cells.set (Cells.set (Cells.set hkq)))) ?_ ?_); (focus (repeat (first | (with_reducible exact Only.refl _ _) | (with_reducible refine Only.set ?_)))); rfl) | ((with_reducible refine writeB_mk (Cells.set (Cells.set (Cells.set (Cells.set (Cells.set hkq))))) ?_ ?_); (focus (repeat (first | (with_reducible exact Only.refl _ _) | (with_reducible refine Only.set ?_)))); rfl) | ((with_reducible refine writeB_mk (Cells.set (Cells.set (Cells.set (Cells.set (Cells.set (Cells.set hkq)))))) ?_ ?_); (focus (repeat (first | (with_reducible exact Only.refl _ _) | (with_reducible refine Only.set ?_)))); rfl) | ((with_reducible refine writeB_mk (Cells.set (Cells.set (Cells.set (Cells.set (Cells.set (Cells.set (Cells.set hkq))))))) ?_ ?_); (focus (repeat (first | (with_reducible exact Only.refl _ _) | (with_reducible refine Only.set ?_)))); rfl) | ((with_reducible refine writeB_mk (Cells.set (Cells.set (Cells.set (Cells.set (Cells.set (Cells.set (Cells.set (Cells.set hkq)))))))) ?_ ?_); (focus (repeat (first | (with_reducible exact Only.refl _ _) | (with_reducible refine Only.set ?_)))); rfl))
                refine walkR_nil (fun X hX wz hwz hcz => ?_)
                have kz0 := hcz 10 (by simp)
                rw [show X 10 = g from hX.at0 0 _ rfl] at kz0
                simp only [updC_some, updC_none, Nat.reduceEqDiff, ↓reduceIte] at kz0
                have kz1 := hcz 11 (by simp)
                rw [show X 11 = A from hX.at0 1 _ rfl] at kz1
                simp only [updC_some, updC_none, Nat.reduceEqDiff, ↓reduceIte] at kz1
                clear hX hcz
                (try clear X)
              case dep10 =>
                refine depR_cons (fun X X' h => ?_) ?_
                · (first | exact ⟨rfl, rfl⟩)
                refine depR_cons (fun X X' h => ?_) ?_
                · (first | exact ⟨rfl, rfl⟩)
                refine depR_cons (fun X X' h => ?_) ?_
                · (first | exact ⟨rfl, rfl⟩)
                refine depR_cons (fun X X' h => ?_) ?_
                · (first | exact ⟨rfl, rfl⟩)
                refine depR_cons (fun X X' h => ?_) ?_
                · (first | exact ⟨rfl, rfl⟩)
                refine depR_cons (fun X X' h => ?_) ?_
                · (first | exact ⟨rfl, rfl⟩)
                refine depR_cons (fun X X' h => ?_) ?_
                · (first | exact ⟨rfl, rfl⟩)
                refine depR_cons (fun X X' h => ?_) ?_
                · (first | exact ⟨rfl, rfl⟩)
                refine depR_cons (fun X X' h => ?_) ?_
                · (first | exact ⟨rfl, rfl⟩)
                refine depR_cons (fun X X' h => ?_) ?_
                · (first | exact ⟨rfl, rfl⟩)
                exact depR_nil
              have kA9 : Cells wz A [.int .i64 (endOf W q m), .slice (some ⟨g, 0, none⟩) q.jobs.length cap] := kz1
              have kg9 : Cells wz g ((q.jobs.set m (stAfter W q m)).flatMap St.cs) := by rw [flat_set5 _ _ _ hm, Hsi.out, Hch.out]; exact kz0
              have kS9 := kS2.old hwz (by simp; omega)
              have k29 := k22.old hwz (by simp; omega)
              have k39 := k32.old hwz (by simp; omega)
              have HB9 := hid (HB2.out.trans (hwz.low (N := w.heap.size) (by omega) (by simp; omega)))
              clear hwz kz0 kz1 cS3 cSs cA1 cAs cX0 cX1 cX2 cX3 cX4 cXs kX2 kS2 kA2 k22 k32 kg2 HB2
              repeat (first | ((first | (refine listF_step rfl (fun K' hK => ?_)) | (refine listF_yes rfl rfl (by decide) ?_ (fun K' hK => ?_); (focus (go_simp; done)))); unfold opF; go_simp; (refine hK _ _ ?_); clear hK K') | (refine listF_no (b' := true) rfl rfl (by decide) ?_ ?_ ?_; (focus (go_simp; done)); (focus rfl)) | (refine listF_no (b' := false) rfl rfl (by decide) ?_ ?_ ?_; (focus (go_simp; done)); (focus rfl)) | (refine listF_nu rfl rfl (by decide) ?_ ?_; (focus (go_simp; done))) | (refine listF_nil ?_) | (refine region_F ?_) | (refine cond_F true ?_ ?_; (focus (go_simp; done)); simp only [if_true]) | (refine cond_F false ?_ ?_; (focus (go_simp; done)); simp only [Bool.false_eq_true, if_false]) | (with_reducible go_step))
              (refine wp_abs ?_; intro s' hs'; have gl2 := congrFun hs' 2; simp only [updS_some, updS_none, Nat.reduceEqDiff, ↓reduceIte] at gl2; (try rw [sl2] at gl2); have gl3 := congrFun hs' 3; simp only [updS_some, updS_none, Nat.reduceEqDiff, ↓reduceIte] at gl3; (try rw [sl3] at gl3); have gl4 := congrFun hs' 4; simp only [updS_some, updS_none, Nat.reduceEqDiff, ↓reduceIte] at gl4; (try rw [sl4] at gl4); have gl5 := congrFun hs' 5; simp only [updS_some, updS_none, Nat.reduceEqDiff, ↓reduceIte] at gl5; (try rw [sl5] at gl5); have gl6 := congrFun hs' 6; simp only [updS_some, updS_none, Nat.reduceEqDiff, ↓reduceIte] at gl6; (try rw [sl6] at gl6); have gl7 := congrFun hs' 7; simp only [updS_some, updS_none, Nat.reduceEqDiff, ↓reduceIte] at gl7; (try rw [sl7] at gl7); clear hs'; (try clear sl2); (try clear sl3); (try clear sl4); (try clear sl5); (try clear sl6); (try clear sl7); have sl2 := gl2; clear gl2; have sl3 := gl3; clear gl3; have sl4 := gl4; clear gl4; have sl5 := gl5; clear gl5; have sl6 := gl6; clear gl6; have sl7 := gl7; clear gl7)
              have cS0 := kS9.cell 0 rfl
              have cS1 := kS9.cell 1 rfl
              have cS2 := kS9.cell 2 rfl
              have cS3 := kS9.cell 3 rfl
              have cA0 := kA9.cell 0 rfl
              have cA1 := kA9.cell 1 rfl
              have jS := kS9.1
              have jA := kA9.1
              have j2 := k29.1
              have j3 := k39.1
              have mS2 : ¬ (A + 1) = w.heap.size + 1 + 1 := by omega
              have mS3 : ¬ (A + 1) = w.heap.size + 1 + 1 + 1 := by omega
              have mA2 : ¬ A = w.heap.size + 1 + 1 := by omega
              have mA3 : ¬ A = w.heap.size + 1 + 1 + 1 := by omega
              have mS2' : ¬ A = w.heap.size + 1 := by omega
              have mS3' : ¬ A = w.heap.size + 1 + 1 := by omega
              refine regionR_F [(w.heap.size + 1 + 1), (w.heap.size + 1 + 1 + 1)] [[.int .i64 0, .int .i64 0, .int .i64 0, .int .i64 0], [.int .i64 0, .slice none 0 0]] [4, 5] [.q [], .q [], .st 4, .st 5] [?v11_0, ?v11_1, fun _ => undef, fun _ => undef] [fun _ => [], fun _ => [], ?c11_2, ?c11_3] (by kernel_rfl) (by kernel_rfl) (by kernel_rfl) (by kernel_rfl) (by kernel_rfl) (by first | exact List.nodup_nil | exact List.nodup_singleton _ | (simp; done) | (simp; omega)) (bc_cons (by repeat (first | (with_reducible exact k29) | (with_reducible refine Cells.drew ?_) | (with_reducible refine Cells.up ?_ _) | (with_reducible refine Cells.setFar ?_ (by omega)))) (bc_cons (by repeat (first | (with_reducible exact k39) | (with_reducible refine Cells.drew ?_) | (with_reducible refine Cells.up ?_ _) | (with_reducible refine Cells.setFar ?_ (by omega)))) bc_nil)) ?walk11 ?dep11
              case walk11 =>
                refine walkR_q (by rfl) (fun X hX wq hwq hrq => ?_) ?_
                · obtain ⟨hcq, hfq⟩ := hwq.b2
                  clear hrq
                  go_simp
                  (first | rfl | exact ⟨rfl, rfl⟩)
                refine walkR_q (by rfl) (fun X hX wq hwq hrq => ?_) ?_
                · obtain ⟨hcq, hfq⟩ := hwq.b2
                  clear hrq
                  go_simp
                  (first | rfl | exact ⟨rfl, rfl⟩)
                refine walkR_st (by rfl) (fun X hX wq hwq hkq => ?_) ?_
                · rw [show X 4 = (w.heap.size + 1 + 1) from hX.at0 0 _ rfl] at hkq ⊢
                  replace hkq : Cells wq (w.heap.size + 1 + 1) [.int .i64 0, .int .i64 0, .int .i64 0, .int .i64 0] := hkq
                  have hks := hkq.1
                  have hkz := hkq.2.2
                  have hk0 := hkq.cell 0 rfl
                  have hk1 := hkq.cell 1 rfl
                  have hk2 := hkq.cell 2 rfl
                  have hk3 := hkq.cell 3 rfl
                  go_simp
                  (first | ((with_reducible refine writeB_mk (Cells.set hkq) ?_ ?_); (focus (repeat (first | (with_reducible exact Only.refl _ _) | (with_reducible refine Only.set ?_)))); rfl) | ((with_reducible refine writeB_mk (Cells.set (Cells.set hkq)) ?_ ?_); (focus (repeat (first | (with_reducible exact Only.refl _ _) | (with_reducible refine Only.set ?_)))); rfl) | ((with_reducible refine writeB_mk (Cells.set (Cells.set (Cells.set hkq))) ?_ ?_); (focus (repeat (first | (with_reducible exact Only.refl _ _) | (with_reducible refine Only.set ?_)))); rfl) | ((with_reducible refine writeB_mk (Cells.set (Cells.set (Cells.set (Cells.set hkq)))) ?_ ?_); (focus (repeat (first | (with_reducible exact Only.refl _ _) | (with_reducible refine Only.set ?_)))); rfl) | ((with_reducible refine writeB_mk (Cells.set (Cells.set (Cells.set (Cells.set (Cells.set hkq))))) ?_ ?_); (focus (repeat (first | (with_reducible exact Only.refl _ _) | (with_reducible refine Only.set ?_)))); rfl) | ((with_reducible refine writeB_mk (Cells.set (Cells.set (Cells.set (Cells.set (Cells.set (Cells.set hkq)))))) ?_ ?_); (focus (repeat (first | (with_reducible exact Only.refl _ _) | (with_reducible refine Only.set ?_)))); rfl) | ((with_reducible refine writeB_mk (Cells.set (Cells.set (Cells.set (Cells.set (Cells.set (Cells.set (Cells.set hkq))))))) ?_ ?_); (focus (repeat (first | (with_reducible exact Only.refl _ _) | (with_reducible refine Only.set ?_)))); rfl) | ((with_reducible refine writeB_mk (Cells.set (Cells.set (Cells.set (Cells.set (Cells.set (Cells.set (Cells.set (Cells.set hkq)))))))) ?_ ?_); (focus (repeat (first | (with_reducible exact Only.refl _ _) | (with_reducible refine Only.set ?_)))); rfl))
                refine walkR_st (by rfl) (fun X hX wq hwq hkq => ?_) ?_
                · rw [show X 5 = (w.heap.size + 1 + 1 + 1) from hX.at0 1 _ rfl] at hkq ⊢
                  replace hkq : Cells wq (w.heap.size + 1 + 1 + 1) [.int .i64 0, .slice none 0 0] := hkq
                  have hks := hkq.1
                  have hkz := hkq.2.2
                  have hk0 := hkq.cell 0 rfl
                  have hk1 := hkq.cell 1 rfl
                  go_simp
                  (first | ((with_reducible refine writeB_mk (Cells.set hkq) ?_ ?_); (focus (repeat (first | (with_reducible exact Only.refl _ _) | (with_reducible refine Only.set ?_)))); rfl) | ((with_reducible refine writeB_mk (Cells.set (Cells.set hkq)) ?_ ?_); (focus (repeat (first | (with_reducible exact Only.refl _ _) | (with_reducible refine Only.set ?_)))); rfl) | ((with_reducible refine writeB_mk (Cells.set (Cells.set (Cells.set hkq))) ?_ ?_); (focus (repeat (first | (with_reducible exact Only.refl _ _) | (with_reducible refine Only.set ?_)))); rfl) | ((with_reducible refine writeB_mk (Cells.set (Cells.set (Cells.set (Cells.set hkq)))) ?_ ?_); (focus (repeat (first | (with_reducible exact Only.refl _ _) | (with_reducible refine Only.set ?_)))); rfl) | ((with_reducible refine writeB_mk (Cells.set (Cells.set (Cells.set (Cells.set (Cells.set hkq))))) ?_ ?_); (focus (repeat (first | (with_reducible exact Only.refl _ _) | (with_reducible refine Only.set ?_)))); rfl) | ((with_reducible refine writeB_mk (Cells.set (Cells.set (Cells.set (Cells.set (Cells.set (Cells.set hkq)))))) ?_ ?_); (focus (repeat (first | (with_reducible exact Only.refl _ _) | (with_reducible refine Only.set ?_)))); rfl) | ((with_reducible refine writeB_mk (Cells.set (Cells.set (Cells.set (Cells.set (Cells.set (Cells.set (Cells.set hkq))))))) ?_ ?_); (focus (repeat (first | (with_reducible exact Only.refl _ _) | (with_reducible refine Only.set ?_)))); rfl) | ((with_reducible refine writeB_mk (Cells.set (Cells.set (Cells.set (Cells.set (Cells.set (Cells.set (Cells.set (Cells.set hkq)))))))) ?_ ?_); (focus (repeat (first | (with_reducible exact Only.refl _ _) | (with_reducible refine Only.set ?_)))); rfl))
                refine walkR_nil (fun X hX wz hwz hcz => ?_)
                have kz0 := hcz 4 (by simp)
                rw [show X 4 = (w.heap.size + 1 + 1) from hX.at0 0 _ rfl] at kz0
                simp only [updC_some, updC_none, Nat.reduceEqDiff, ↓reduceIte] at kz0
                have kz1 := hcz 5 (by simp)
                rw [show X 5 = (w.heap.size + 1 + 1 + 1) from hX.at0 1 _ rfl] at kz1
                simp only [updC_some, updC_none, Nat.reduceEqDiff, ↓reduceIte] at kz1
                clear hX hcz
                (try clear X)
                repeat (first | ((first | (refine listF_step rfl (fun K' hK => ?_)) | (refine listF_yes rfl rfl (by decide) ?_ (fun K' hK => ?_); (focus (go_simp; done)))); unfold opF; go_simp; (refine hK _ _ ?_); clear hK K') | (refine listF_no (b' := true) rfl rfl (by decide) ?_ ?_ ?_; (focus (go_simp; done)); (focus rfl)) | (refine listF_no (b' := false) rfl rfl (by decide) ?_ ?_ ?_; (focus (go_simp; done)); (focus rfl)) | (refine listF_nu rfl rfl (by decide) ?_ ?_; (focus (go_simp; done))) | (refine listF_nil ?_) | (refine region_F ?_) | (refine cond_F true ?_ ?_; (focus (go_simp; done)); simp only [if_true]) | (refine cond_F false ?_ ?_; (focus (go_simp; done)); simp only [Bool.false_eq_true, if_false]) | (with_reducible go_step))
                refine ret_F (.tuple #[.agg #[.int .i64 (kindOf W q m), .int .i64 m, .int .i64 q.now, .int .i64 (endOf W q m)], .agg #[.int .i64 (endOf W q m), .slice (some ⟨g, 0, none⟩) q.jobs.length cap]]) (res_cc (ad := ⟨w.heap.size + 1 + 1, 0, none⟩) (ad2 := ⟨w.heap.size + 1 + 1 + 1, 0, none⟩) Try.results57 ((getD_F (by simp)).trans (by go_simp)) ((getD_F (by simp)).trans (by go_simp)) (load_spell (kz0.cell 0 rfl) (kz0.cell 1 rfl) (kz0.cell 2 rfl) (kz0.cell 3 rfl)) (load_qu (kz1.cell 0 rfl) (kz1.cell 1 rfl))) ?_
                refine ⟨g, cap, by rw [Hstep.out]; simp only [List.length_set], by omega, ?_, HB9.out.trans (hwz.low (N := w.heap.size) (by omega) (by simp; omega))⟩
                rw [Hstep.out]
                exact Cells.rd (f := St.cs) (m := 5) (fun _ => rfl) (kg9.old hwz (by simp; omega))
              case dep11 =>
                refine depR_cons (fun X X' h => ?_) ?_
                · (first | exact ⟨rfl, rfl⟩)
                refine depR_cons (fun X X' h => ?_) ?_
                · (first | exact ⟨rfl, rfl⟩)
                refine depR_cons (fun X X' h => ?_) ?_
                · (first | exact ⟨rfl, rfl⟩)
                refine depR_cons (fun X X' h => ?_) ?_
                · (first | exact ⟨rfl, rfl⟩)
                exact depR_nil
        clear hKR
        have K0 : Hid ((stAfter W q m).progress = q.jobs[m].progress + mn) := hid (by show (q.st m).progress + minutesOf W q m = _; rw [Qu.st_eq hm, Hmn.out])
        have Hdn := hid (show doneOf W q m = (q.jobs[m].progress + mn == W.jobs[m].fin) by unfold doneOf; rw [Qu.st_eq hm, Work.job_eq hml, Hmn.out])
        have y0 := kX1.cell 0 rfl
        have j0 := kJ1.cell 0 rfl
        have j1 := kJ1.cell 1 rfl
        have j2 := kJ1.cell 2 rfl
        have j3 := kJ1.cell 3 rfl
        have ys := kX1.1
        have js := kJ1.1
        refine regionQ_F (Below wv.heap.size wv) (by kernel_rfl) (by kernel_rfl) (Below.refl _ _).drew ?_
        repeat (first | (refine listQ_step (v := ?_) rfl ?_ ?_; rotate_left; (focus (intro wq hwq; obtain ⟨hcq, hfq⟩ := bcell hwq; go_simp; (first | rfl | (exact ⟨rfl, rfl⟩) | (exact rend_c W.jobs[m] hwq hwq.size))))) | (refine listQ_yes (v := ?_) rfl rfl (by decide) ?_ ?_ ?_; rotate_left; (focus (go_simp; done)); (focus (intro wq hwq; obtain ⟨hcq, hfq⟩ := bcell hwq; go_simp; (first | rfl | (exact ⟨rfl, rfl⟩) | (exact rend_c W.jobs[m] hwq hwq.size))))) | (refine listQ_no (b' := true) rfl rfl (by decide) ?_ ?_ ?_; (focus (go_simp; done)); (focus rfl)) | (refine listQ_no (b' := false) rfl rfl (by decide) ?_ ?_ ?_; (focus (go_simp; done)); (focus rfl)) | (refine listQ_nu rfl rfl (by decide) ?_ ?_; (focus (go_simp; done))) | (refine listQ_nil ?_))
        intro w8 hw8
        replace k0 := k0.at hw8
        replace k2 := k2.at hw8
        replace k3 := k3.at hw8
        replace kA := kA.at hw8
        replace kg := kg.at hw8
        replace kS1 := kS1.at hw8
        replace kX1 := kX1.at hw8
        replace kJ1 := kJ1.at hw8
        have HB8 := hid (HBv.out.trans (hw8.mono HBv.out.size) : Below w.heap.size w w8)
        clear hw8 HBv y0 j0 j1 j2 j3 ys js
        rcases beq_or (q.jobs[m].progress + mn) W.jobs[m].fin with t1 | t1
        · have K2 : Hid (endOf W q m = q.now + W.rules.load + mn) := hid (by unfold endOf; rw [Hdn.out, t1, Hmn.out]; simp)
          have K4 : Hid ((stAfter W q m).ended = q.now + W.rules.load + mn) := hid (by show (if doneOf W q m then endOf W q m else _) = _; rw [Hdn.out, t1, K2.out]; rfl)
          have c02 := k0.cell 2 rfl
          have q0 := k0.1
          have cS0 := kS1.cell 0 rfl
          have cS3 := kS1.cell 3 rfl
          have cSz := kS1.2.2
          have cSs := kS1.1
          have y3 := kX1.cell 3 rfl
          have yz := kX1.2.2
          have ys := kX1.1
          have u5 : IntKind.i64.wrap (q.now + W.rules.load + mn + W.rules.dump - W.rules.dump) = q.now + W.rules.load + mn := by rw [IntWalk.i64_in _ (by omega)]; omega
          repeat (first | ((first | (refine listF_step rfl (fun K' hK => ?_)) | (refine listF_yes rfl rfl (by decide) ?_ (fun K' hK => ?_); (focus (go_simp; done)))); unfold opF; go_simp; (refine hK _ _ ?_); clear hK K') | (refine listF_no (b' := true) rfl rfl (by decide) ?_ ?_ ?_; (focus (go_simp; done)); (focus rfl)) | (refine listF_no (b' := false) rfl rfl (by decide) ?_ ?_ ?_; (focus (go_simp; done)); (focus rfl)) | (refine listF_nu rfl rfl (by decide) ?_ ?_; (focus (go_simp; done))) | (refine listF_nil ?_) | (refine region_F ?_) | (refine cond_F true ?_ ?_; (focus (go_simp; done)); simp only [if_true]) | (refine cond_F false ?_ ?_; (focus (go_simp; done)); simp only [Bool.false_eq_true, if_false]) | (with_reducible go_step))
          (refine wp_abs ?_; intro s' hs'; have gl2 := congrFun hs' 2; simp only [updS_some, updS_none, Nat.reduceEqDiff, ↓reduceIte] at gl2; (try rw [sl2] at gl2); have gl3 := congrFun hs' 3; simp only [updS_some, updS_none, Nat.reduceEqDiff, ↓reduceIte] at gl3; (try rw [sl3] at gl3); have gl4 := congrFun hs' 4; simp only [updS_some, updS_none, Nat.reduceEqDiff, ↓reduceIte] at gl4; (try rw [sl4] at gl4); have gl5 := congrFun hs' 5; simp only [updS_some, updS_none, Nat.reduceEqDiff, ↓reduceIte] at gl5; (try rw [sl5] at gl5); have gl6 := congrFun hs' 6; simp only [updS_some, updS_none, Nat.reduceEqDiff, ↓reduceIte] at gl6; (try rw [sl6] at gl6); have gl7 := congrFun hs' 7; simp only [updS_some, updS_none, Nat.reduceEqDiff, ↓reduceIte] at gl7; (try rw [sl7] at gl7); have gl10 := congrFun hs' 10; simp only [updS_some, updS_none, Nat.reduceEqDiff, ↓reduceIte] at gl10; (try rw [sl10] at gl10); have gl12 := congrFun hs' 12; simp only [updS_some, updS_none, Nat.reduceEqDiff, ↓reduceIte] at gl12; (try rw [sl12] at gl12); have gl14 := congrFun hs' 14; simp only [updS_some, updS_none, Nat.reduceEqDiff, ↓reduceIte] at gl14; (try rw [sl14] at gl14); have gl15 := congrFun hs' 15; simp only [updS_some, updS_none, Nat.reduceEqDiff, ↓reduceIte] at gl15; (try rw [sl15] at gl15); clear hs'; (try clear sl2); (try clear sl3); (try clear sl4); (try clear sl5); (try clear sl6); (try clear sl7); (try clear sl10); (try clear sl12); (try clear sl14); (try clear sl15); have sl2 := gl2; clear gl2; have sl3 := gl3; clear gl3; have sl4 := gl4; clear gl4; have sl5 := gl5; clear gl5; have sl6 := gl6; clear gl6; have sl7 := gl7; clear gl7; have sl10 := gl10; clear gl10; have sl12 := gl12; clear gl12; have sl14 := gl14; clear gl14; have sl15 := gl15; clear gl15)
          refine wp_absw ?_
          intro w9 hw9
          have kS9 : Cells w9 (A + 1) [.int .i64 3, .int .i64 m, .int .i64 q.now, .int .i64 (q.now + W.rules.load + mn)] := by rw [hw9]; exact (by apply Cells.conv; (focus (repeat (first | (with_reducible exact kS1) | (with_reducible apply Cells.set) | ((with_reducible apply Cells.setFar); case hn => omega) | (with_reducible apply Cells.up) | (with_reducible apply Cells.drew)))); rfl)
          have kX9 : Cells w9 J11 [.int .i64 (q.jobs[m].progress + mn), .int .i64 q.jobs[m].since, .int .i64 q.jobs[m].charge, .int .i64 2, .int .i64 q.jobs[m].ended] := by rw [hw9]; exact (by apply Cells.conv; (focus (repeat (first | (with_reducible exact kX1) | (with_reducible apply Cells.set) | ((with_reducible apply Cells.setFar); case hn => omega) | (with_reducible apply Cells.up) | (with_reducible apply Cells.drew)))); rfl)
          have kJ9 : Cells w9 J10 [.string W.jobs[m].name, .int .i64 W.jobs[m].arrive, .int .i64 W.jobs[m].claim, .int .i64 W.jobs[m].needs] := by rw [hw9]; exact (by apply Cells.conv; (focus (repeat (first | (with_reducible exact kJ1) | (with_reducible apply Cells.set) | ((with_reducible apply Cells.setFar); case hn => omega) | (with_reducible apply Cells.up) | (with_reducible apply Cells.drew)))); rfl)
          replace k0 : Cells w9 w.heap.size [.int .i64 W.rules.slice, .int .i64 W.rules.load, .int .i64 W.rules.dump, .int .i64 W.rules.patience, .int .i64 W.rules.rate, .slice (some ⟨bj, oj, none⟩) W.jobs.length cj, .slice af W.faults.length cf] := by rw [hw9]; exact (by apply Cells.conv; (focus (repeat (first | (with_reducible exact k0) | (with_reducible apply Cells.set) | ((with_reducible apply Cells.setFar); case hn => omega) | (with_reducible apply Cells.up) | (with_reducible apply Cells.drew)))); rfl)
          replace k2 : Cells w9 (w.heap.size + 1 + 1) [.int .i64 0, .int .i64 0, .int .i64 0, .int .i64 0] := by rw [hw9]; exact (by apply Cells.conv; (focus (repeat (first | (with_reducible exact k2) | (with_reducible apply Cells.set) | ((with_reducible apply Cells.setFar); case hn => omega) | (with_reducible apply Cells.up) | (with_reducible apply Cells.drew)))); rfl)
          replace k3 : Cells w9 (w.heap.size + 1 + 1 + 1) [.int .i64 0, .slice none 0 0] := by rw [hw9]; exact (by apply Cells.conv; (focus (repeat (first | (with_reducible exact k3) | (with_reducible apply Cells.set) | ((with_reducible apply Cells.setFar); case hn => omega) | (with_reducible apply Cells.up) | (with_reducible apply Cells.drew)))); rfl)
          replace kA : Cells w9 A [.int .i64 0, .slice (some ⟨g, 0, none⟩) q.jobs.length cap] := by rw [hw9]; exact (by apply Cells.conv; (focus (repeat (first | (with_reducible exact kA) | (with_reducible apply Cells.set) | ((with_reducible apply Cells.setFar); case hn => omega) | (with_reducible apply Cells.up) | (with_reducible apply Cells.drew)))); rfl)
          replace kg : Cells w9 g (q.jobs.flatMap St.cs) := by rw [hw9]; exact (by apply Cells.conv; (focus (repeat (first | (with_reducible exact kg) | (with_reducible apply Cells.set) | ((with_reducible apply Cells.setFar); case hn => omega) | (with_reducible apply Cells.up) | (with_reducible apply Cells.drew)))); rfl)
          have HB9 := hid (show Below w.heap.size w w9 by rw [hw9]; exact (by repeat (first | (with_reducible exact HB8.out) | (with_reducible refine bdrewN ?_ _) | (with_reducible refine Below.drew ?_) | (with_reducible refine Below.setCell ?_ (by first | omega | (simp; done) | (simp; omega)) _) | (with_reducible refine Below.alloc ?_ (by first | omega | (simp; done) | (simp; omega)) _))))
          clear hw9 HB8 c02 q0 cS0 cS3 cSz cSs y3 yz ys kS1 kX1 kJ1
          have j0 := kJ9.cell 0 rfl
          have j1 := kJ9.cell 1 rfl
          have j2 := kJ9.cell 2 rfl
          have j3 := kJ9.cell 3 rfl
          have js := kJ9.1
          refine regionQ_F (Below w9.heap.size w9) (by kernel_rfl) (by kernel_rfl) (Below.refl _ _).drew ?_
          repeat (first | (refine listQ_step (v := ?_) rfl ?_ ?_; rotate_left; (focus (intro wq hwq; obtain ⟨hcq, hfq⟩ := bcell hwq; go_simp; (first | rfl | (exact ⟨rfl, rfl⟩) | (exact rend_c W.jobs[m] hwq hwq.size))))) | (refine listQ_yes (v := ?_) rfl rfl (by decide) ?_ ?_ ?_; rotate_left; (focus (go_simp; done)); (focus (intro wq hwq; obtain ⟨hcq, hfq⟩ := bcell hwq; go_simp; (first | rfl | (exact ⟨rfl, rfl⟩) | (exact rend_c W.jobs[m] hwq hwq.size))))) | (refine listQ_no (b' := true) rfl rfl (by decide) ?_ ?_ ?_; (focus (go_simp; done)); (focus rfl)) | (refine listQ_no (b' := false) rfl rfl (by decide) ?_ ?_ ?_; (focus (go_simp; done)); (focus rfl)) | (refine listQ_nu rfl rfl (by decide) ?_ ?_; (focus (go_simp; done))) | (refine listQ_nil ?_))
          intro w10 hw10
          replace k0 := k0.at hw10
          replace k2 := k2.at hw10
          replace k3 := k3.at hw10
          replace kA := kA.at hw10
          replace kg := kg.at hw10
          replace kS9 := kS9.at hw10
          replace kX9 := kX9.at hw10
          have HB10 := hid (HB9.out.trans (hw10.mono HB9.out.size) : Below w.heap.size w w10)
          clear hw10 HB9 j0 j1 j2 j3 js kJ9
          have cS0 := kS9.cell 0 rfl
          have cS3 := kS9.cell 3 rfl
          have cSz := kS9.2.2
          have cSs := kS9.1
          have y3 := kX9.cell 3 rfl
          have y4 := kX9.cell 4 rfl
          have yz := kX9.2.2
          have ys := kX9.1
          rcases beq_or W.jobs[m].fin W.jobs[m].needs with t2 | t2
          · have K1 : Hid (kindOf W q m = 2) := hid (by unfold kindOf; rw [Hdn.out, t1, Work.job_eq hml, t2]; rfl)
            have K3 : Hid ((stAfter W q m).why = 1) := hid (by show (if doneOf W q m then (if (W.job m).fin == (W.job m).needs then (1 : Int) else 2) else _) = 1; rw [Hdn.out, t1, Work.job_eq hml, t2]; rfl)
            repeat (first | ((first | (refine listF_step rfl (fun K' hK => ?_)) | (refine listF_yes rfl rfl (by decide) ?_ (fun K' hK => ?_); (focus (go_simp; done)))); unfold opF; go_simp; (refine hK _ _ ?_); clear hK K') | (refine listF_no (b' := true) rfl rfl (by decide) ?_ ?_ ?_; (focus (go_simp; done)); (focus rfl)) | (refine listF_no (b' := false) rfl rfl (by decide) ?_ ?_ ?_; (focus (go_simp; done)); (focus rfl)) | (refine listF_nu rfl rfl (by decide) ?_ ?_; (focus (go_simp; done))) | (refine listF_nil ?_) | (refine region_F ?_) | (refine cond_F true ?_ ?_; (focus (go_simp; done)); simp only [if_true]) | (refine cond_F false ?_ ?_; (focus (go_simp; done)); simp only [Bool.false_eq_true, if_false]) | (with_reducible go_step))
            refine hrest _ _ ⟨(by first | (go_simp; done) | exact sl2 | (simp only [updS_some, updS_none, Nat.reduceEqDiff, ↓reduceIte]; exact sl2)), (by first | (go_simp; done) | exact sl3 | (simp only [updS_some, updS_none, Nat.reduceEqDiff, ↓reduceIte]; exact sl3)), (by first | (go_simp; done) | exact sl4 | (simp only [updS_some, updS_none, Nat.reduceEqDiff, ↓reduceIte]; exact sl4)), (by first | (go_simp; done) | exact sl5 | (simp only [updS_some, updS_none, Nat.reduceEqDiff, ↓reduceIte]; exact sl5)), (by first | (go_simp; done) | exact sl6 | (simp only [updS_some, updS_none, Nat.reduceEqDiff, ↓reduceIte]; exact sl6)), (by first | (go_simp; done) | exact sl7 | (simp only [updS_some, updS_none, Nat.reduceEqDiff, ↓reduceIte]; exact sl7))⟩ (by first | (go_simp; done) | exact sl10 | (simp only [updS_some, updS_none, Nat.reduceEqDiff, ↓reduceIte]; exact sl10)) (by first | (go_simp; done) | exact sl12 | (simp only [updS_some, updS_none, Nat.reduceEqDiff, ↓reduceIte]; exact sl12)) (by first | (go_simp; done) | exact sl15 | (simp only [updS_some, updS_none, Nat.reduceEqDiff, ↓reduceIte]; exact sl15)) (by rw [K1.out, K2.out]; exact (by apply Cells.conv; (focus (repeat (first | (with_reducible exact kS9) | (with_reducible apply Cells.set) | ((with_reducible apply Cells.setFar); case hn => omega) | (with_reducible apply Cells.up) | (with_reducible apply Cells.drew)))); rfl)) (by rw [K0.out, K3.out, K4.out]; exact (by apply Cells.conv; (focus (repeat (first | (with_reducible exact kX9) | (with_reducible apply Cells.set) | ((with_reducible apply Cells.setFar); case hn => omega) | (with_reducible apply Cells.up) | (with_reducible apply Cells.drew)))); rfl)) (by apply Cells.conv; (focus (repeat (first | (with_reducible exact k0) | (with_reducible apply Cells.set) | ((with_reducible apply Cells.setFar); case hn => omega) | (with_reducible apply Cells.up) | (with_reducible apply Cells.drew)))); rfl) (by apply Cells.conv; (focus (repeat (first | (with_reducible exact k2) | (with_reducible apply Cells.set) | ((with_reducible apply Cells.setFar); case hn => omega) | (with_reducible apply Cells.up) | (with_reducible apply Cells.drew)))); rfl) (by apply Cells.conv; (focus (repeat (first | (with_reducible exact k3) | (with_reducible apply Cells.set) | ((with_reducible apply Cells.setFar); case hn => omega) | (with_reducible apply Cells.up) | (with_reducible apply Cells.drew)))); rfl) (by apply Cells.conv; (focus (repeat (first | (with_reducible exact kA) | (with_reducible apply Cells.set) | ((with_reducible apply Cells.setFar); case hn => omega) | (with_reducible apply Cells.up) | (with_reducible apply Cells.drew)))); rfl) (by apply Cells.conv; (focus (repeat (first | (with_reducible exact kg) | (with_reducible apply Cells.set) | ((with_reducible apply Cells.setFar); case hn => omega) | (with_reducible apply Cells.up) | (with_reducible apply Cells.drew)))); rfl) (hid (by repeat (first | (with_reducible exact HB10.out) | (with_reducible refine bdrewN ?_ _) | (with_reducible refine Below.drew ?_) | (with_reducible refine Below.setCell ?_ (by first | omega | (simp; done) | (simp; omega)) _) | (with_reducible refine Below.alloc ?_ (by first | omega | (simp; done) | (simp; omega)) _))))
          · have K1 : Hid (kindOf W q m = 3) := hid (by unfold kindOf; rw [Hdn.out, t1, Work.job_eq hml, t2]; rfl)
            have K3 : Hid ((stAfter W q m).why = 2) := hid (by show (if doneOf W q m then (if (W.job m).fin == (W.job m).needs then (1 : Int) else 2) else _) = 2; rw [Hdn.out, t1, Work.job_eq hml, t2]; rfl)
            repeat (first | ((first | (refine listF_step rfl (fun K' hK => ?_)) | (refine listF_yes rfl rfl (by decide) ?_ (fun K' hK => ?_); (focus (go_simp; done)))); unfold opF; go_simp; (refine hK _ _ ?_); clear hK K') | (refine listF_no (b' := true) rfl rfl (by decide) ?_ ?_ ?_; (focus (go_simp; done)); (focus rfl)) | (refine listF_no (b' := false) rfl rfl (by decide) ?_ ?_ ?_; (focus (go_simp; done)); (focus rfl)) | (refine listF_nu rfl rfl (by decide) ?_ ?_; (focus (go_simp; done))) | (refine listF_nil ?_) | (refine region_F ?_) | (refine cond_F true ?_ ?_; (focus (go_simp; done)); simp only [if_true]) | (refine cond_F false ?_ ?_; (focus (go_simp; done)); simp only [Bool.false_eq_true, if_false]) | (with_reducible go_step))
            refine hrest _ _ ⟨(by first | (go_simp; done) | exact sl2 | (simp only [updS_some, updS_none, Nat.reduceEqDiff, ↓reduceIte]; exact sl2)), (by first | (go_simp; done) | exact sl3 | (simp only [updS_some, updS_none, Nat.reduceEqDiff, ↓reduceIte]; exact sl3)), (by first | (go_simp; done) | exact sl4 | (simp only [updS_some, updS_none, Nat.reduceEqDiff, ↓reduceIte]; exact sl4)), (by first | (go_simp; done) | exact sl5 | (simp only [updS_some, updS_none, Nat.reduceEqDiff, ↓reduceIte]; exact sl5)), (by first | (go_simp; done) | exact sl6 | (simp only [updS_some, updS_none, Nat.reduceEqDiff, ↓reduceIte]; exact sl6)), (by first | (go_simp; done) | exact sl7 | (simp only [updS_some, updS_none, Nat.reduceEqDiff, ↓reduceIte]; exact sl7))⟩ (by first | (go_simp; done) | exact sl10 | (simp only [updS_some, updS_none, Nat.reduceEqDiff, ↓reduceIte]; exact sl10)) (by first | (go_simp; done) | exact sl12 | (simp only [updS_some, updS_none, Nat.reduceEqDiff, ↓reduceIte]; exact sl12)) (by first | (go_simp; done) | exact sl15 | (simp only [updS_some, updS_none, Nat.reduceEqDiff, ↓reduceIte]; exact sl15)) (by rw [K1.out, K2.out]; exact (by apply Cells.conv; (focus (repeat (first | (with_reducible exact kS9) | (with_reducible apply Cells.set) | ((with_reducible apply Cells.setFar); case hn => omega) | (with_reducible apply Cells.up) | (with_reducible apply Cells.drew)))); rfl)) (by rw [K0.out, K3.out, K4.out]; exact (by apply Cells.conv; (focus (repeat (first | (with_reducible exact kX9) | (with_reducible apply Cells.set) | ((with_reducible apply Cells.setFar); case hn => omega) | (with_reducible apply Cells.up) | (with_reducible apply Cells.drew)))); rfl)) (by apply Cells.conv; (focus (repeat (first | (with_reducible exact k0) | (with_reducible apply Cells.set) | ((with_reducible apply Cells.setFar); case hn => omega) | (with_reducible apply Cells.up) | (with_reducible apply Cells.drew)))); rfl) (by apply Cells.conv; (focus (repeat (first | (with_reducible exact k2) | (with_reducible apply Cells.set) | ((with_reducible apply Cells.setFar); case hn => omega) | (with_reducible apply Cells.up) | (with_reducible apply Cells.drew)))); rfl) (by apply Cells.conv; (focus (repeat (first | (with_reducible exact k3) | (with_reducible apply Cells.set) | ((with_reducible apply Cells.setFar); case hn => omega) | (with_reducible apply Cells.up) | (with_reducible apply Cells.drew)))); rfl) (by apply Cells.conv; (focus (repeat (first | (with_reducible exact kA) | (with_reducible apply Cells.set) | ((with_reducible apply Cells.setFar); case hn => omega) | (with_reducible apply Cells.up) | (with_reducible apply Cells.drew)))); rfl) (by apply Cells.conv; (focus (repeat (first | (with_reducible exact kg) | (with_reducible apply Cells.set) | ((with_reducible apply Cells.setFar); case hn => omega) | (with_reducible apply Cells.up) | (with_reducible apply Cells.drew)))); rfl) (hid (by repeat (first | (with_reducible exact HB10.out) | (with_reducible refine bdrewN ?_ _) | (with_reducible refine Below.drew ?_) | (with_reducible refine Below.setCell ?_ (by first | omega | (simp; done) | (simp; omega)) _) | (with_reducible refine Below.alloc ?_ (by first | omega | (simp; done) | (simp; omega)) _))))
        · have K2 : Hid (endOf W q m = q.now + W.rules.load + mn + W.rules.dump) := hid (by unfold endOf; rw [Hdn.out, t1, Hmn.out]; rfl)
          have K4 : Hid ((stAfter W q m).ended = q.jobs[m].ended) := hid (by show (if doneOf W q m then endOf W q m else (q.st m).ended) = _; rw [Hdn.out, t1, Qu.st_eq hm]; rfl)
          have K1 : Hid (kindOf W q m = 1) := hid (by unfold kindOf; rw [Hdn.out, t1]; rfl)
          have K3 : Hid ((stAfter W q m).why = q.jobs[m].why) := hid (by show (if doneOf W q m then (if (W.job m).fin == (W.job m).needs then (1 : Int) else 2) else (q.st m).why) = _; rw [Hdn.out, t1, Qu.st_eq hm]; rfl)
          repeat (first | ((first | (refine listF_step rfl (fun K' hK => ?_)) | (refine listF_yes rfl rfl (by decide) ?_ (fun K' hK => ?_); (focus (go_simp; done)))); unfold opF; go_simp; (refine hK _ _ ?_); clear hK K') | (refine listF_no (b' := true) rfl rfl (by decide) ?_ ?_ ?_; (focus (go_simp; done)); (focus rfl)) | (refine listF_no (b' := false) rfl rfl (by decide) ?_ ?_ ?_; (focus (go_simp; done)); (focus rfl)) | (refine listF_nu rfl rfl (by decide) ?_ ?_; (focus (go_simp; done))) | (refine listF_nil ?_) | (refine region_F ?_) | (refine cond_F true ?_ ?_; (focus (go_simp; done)); simp only [if_true]) | (refine cond_F false ?_ ?_; (focus (go_simp; done)); simp only [Bool.false_eq_true, if_false]) | (with_reducible go_step))
          refine hrest _ _ ⟨(by first | (go_simp; done) | exact sl2 | (simp only [updS_some, updS_none, Nat.reduceEqDiff, ↓reduceIte]; exact sl2)), (by first | (go_simp; done) | exact sl3 | (simp only [updS_some, updS_none, Nat.reduceEqDiff, ↓reduceIte]; exact sl3)), (by first | (go_simp; done) | exact sl4 | (simp only [updS_some, updS_none, Nat.reduceEqDiff, ↓reduceIte]; exact sl4)), (by first | (go_simp; done) | exact sl5 | (simp only [updS_some, updS_none, Nat.reduceEqDiff, ↓reduceIte]; exact sl5)), (by first | (go_simp; done) | exact sl6 | (simp only [updS_some, updS_none, Nat.reduceEqDiff, ↓reduceIte]; exact sl6)), (by first | (go_simp; done) | exact sl7 | (simp only [updS_some, updS_none, Nat.reduceEqDiff, ↓reduceIte]; exact sl7))⟩ (by first | (go_simp; done) | exact sl10 | (simp only [updS_some, updS_none, Nat.reduceEqDiff, ↓reduceIte]; exact sl10)) (by first | (go_simp; done) | exact sl12 | (simp only [updS_some, updS_none, Nat.reduceEqDiff, ↓reduceIte]; exact sl12)) (by first | (go_simp; done) | exact sl15 | (simp only [updS_some, updS_none, Nat.reduceEqDiff, ↓reduceIte]; exact sl15)) (by rw [K1.out, K2.out]; exact kS1) (by rw [K0.out, K3.out, K4.out]; exact kX1) k0 k2 k3 kA kg HB8

end Go.Proofs.Ytbjgebbfachgfaa
