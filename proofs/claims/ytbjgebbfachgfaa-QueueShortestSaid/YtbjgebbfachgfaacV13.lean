/- QueueShortest: its walk. -/
import Derived.Test.YtbjgebbfachgfaacLP
import Derived.Test.YtbjgebbfachgfaacPure14
import Derived.Test.YtbjgebbfachgfaacOreg
set_option linter.unusedVariables false
set_option linter.unusedSimpArgs false
set_option linter.unusedSectionVars false
set_option linter.all false
namespace Go.Proofs.Ytbjgebbfachgfaa
open Go.RowKit

abbrev RdU8 := Rd (fun n : Int => [Value.int .u8 n]) 1
theorem RdU8.ne {w : World} {a : Option Addr} {l : List Int} (h : RdU8 w a l) {k : Nat} (hk : k < l.length) : ∃ b off, a = some ⟨b, off, none⟩ ∧ b < w.heap.size ∧ w.cell? ⟨b, off + k, none⟩ = some (.int .u8 l[k]) := by
  obtain ⟨b, off, ha, hb, hc⟩ := Rd.ne h hk
  exact ⟨b, off, ha, hb, by simpa using hc 0 _ rfl⟩
theorem info_job : (Try.prog.info? 56).map (fun i => (i.zero, i.size, i.bytes)) = some (some (.agg #[.string ByteArray.empty, .int .i64 0, .int .i64 0, .int .i64 0]), 4, 40) := by kernel_rfl
theorem job_one (x : Job) : ∀ u ∈ x.cs, u.oneCell' = true := by intro u hu; simp [Job.cs] at hu; rcases hu with rfl | rfl | rfl | rfl <;> rfl
theorem int_one (x : Int) : ∀ u ∈ [Value.int .i64 x], u.oneCell' = true := by intro u hu; simp at hu; subst hu; rfl
theorem cut_any {P : Program} {c : Code} {n : Nat} {ds : List Deferred} {Q : Exit → Act → World → Prop} {s0 : Nat → Value} {w0 : World} (K : (Nat → Value) → World → Prop)
    (h : c.wp P (fun e a w => e = .normal ∧ ∃ s, a = mkA n s ds ∧ K s w) (mkA n s0 ds) w0) (hK : ∀ s w, K s w → Q .normal (mkA n s ds) w) : c.wp P Q (mkA n s0 ds) w0 :=
  wp_mono h (by rintro e a w ⟨rfl, s, rfl, hk⟩; exact hK s w hk)
theorem Rd.takeK {α : Type} {f : α → List Value} {m : Nat} {w : World} {a : Option Addr} {l : List α} (h : Rd f m w a l) (k : Nat) : Rd f m w a (l.take k) := by
  rcases h with rfl | ⟨b, off, ha, hlt, hc⟩
  · exact .inl (by simp)
  · exact .inr ⟨b, off, ha, hlt, fun i x hi j v hj => hc i x (by
      rw [List.getElem?_take] at hi
      split at hi
      · exact hi
      · cases hi) j v hj⟩

theorem slice_from (a : Option Addr) (len cap k : Nat) (hk : k ≤ len) (hc : len ≤ cap) : ∃ ad cd, (∀ w, (Instr.sliceAt 48 (.slice a len cap) (some (.int .i64 (k : Int))) none none).run Try.prog w = .ok (.slice ad (len - k) cd) w) ∧
    ∀ (w : World) (l : List Int), l.length = len → RdInts w a l → RdInts w ad (l.drop k) := by
  have hu := Try.underlying48
  refine ⟨if cap = k then a else a.map (·.add (k * 1)), cap - k, fun w => ?_, ?_⟩
  · have h0 : (0 : Int) ≤ (k : Int) := by omega
    have h1 : (k : Int) ≤ (len : Int) := by omega
    go_simp
  · intro w l hl h
    by_cases hd : l.drop k = []
    · exact .inl hd
    · have hlt : k < len := by
        rcases Nat.lt_or_ge k len with h | h
        · exact h
        · exact absurd (List.drop_eq_nil_of_le (by omega)) hd
      rw [if_neg (by omega)]
      rcases h with h | ⟨b, off, ha, hlt', hc'⟩
      · rw [h] at hd; simp at hd
      · subst ha
        refine .inr ⟨b, off + k, by simp [Addr.add], hlt', fun i x hi j v hj => ?_⟩
        have := hc' (k + i) x (by rw [List.getElem?_drop] at hi; exact hi) j v hj
        rw [show off + k + i * 1 + j = off + (k + i) * 1 + j by omega]; exact this

set_option maxRecDepth 100000 in
set_option maxHeartbeats 8000000 in
theorem short_walk (r : Rules) (nd od : List Int) (an ao : Option Addr) (cn co : Nat) (w : World) (hn : RdU8 w an nd) (ho : RdU8 w ao od) (hnb : ∀ x ∈ nd, 0 ≤ x ∧ x ≤ 255) (hob : ∀ x ∈ od, 0 ≤ x ∧ x ≤ 255) (hnl : nd.length ≤ 9223372036854775807) (hol : od.length ≤ 9223372036854775807) :
    Calls Try.prog 13 #[.agg #[.int .i64 r.slice, .int .i64 r.load, .int .i64 r.dump, .int .i64 r.patience, .int .i64 r.rate], .slice an nd.length cn, .slice ao od.length co] w fun e w' => e = .returned (.bool true) ∧ Below w.heap.size w w' := by
  obtain ⟨i0, hi0, hz0, hz1, hz2⟩ := info_parts info_int
  obtain ⟨i1, hi1, hy0, hy1, hy2⟩ := info_parts info_job
  have Hn := hid hn
  have Ho := hid ho
  have Hnb := hid hnb
  have Hob := hid hob
  clear hn ho hnb hob
  refine enter_F Try.func13 rfl Try.ntmps13 (by simp) ?_
  intro s hs
  have sl0 : s 0 = .agg #[.int .i64 r.slice, .int .i64 r.load, .int .i64 r.dump, .int .i64 r.patience, .int .i64 r.rate] := hs 0 (by simp)
  have sl1 : s 1 = .slice an nd.length cn := hs 1 (by simp)
  have sl2 : s 2 = .slice ao od.length co := hs 2 (by simp)
  clear hs
  repeat (first | ((first | (refine listF_step rfl (fun K' hK => ?_)) | (refine listF_yes rfl rfl (by decide) ?_ (fun K' hK => ?_); (focus (go_simp; done)))); unfold opF; go_simp; (refine hK _ _ ?_); clear hK K') | (refine listF_no (b' := true) rfl rfl (by decide) ?_ ?_ ?_; (focus (go_simp; done)); (focus rfl)) | (refine listF_no (b' := false) rfl rfl (by decide) ?_ ?_ ?_; (focus (go_simp; done)); (focus rfl)) | (refine listF_nu rfl rfl (by decide) ?_ ?_; (focus (go_simp; done))) | (refine listF_nil ?_) | (refine region_F ?_) | (refine cond_F true ?_ ?_; (focus (go_simp; done)); simp only [if_true]) | (refine cond_F false ?_ ?_; (focus (go_simp; done)); simp only [Bool.false_eq_true, if_false]) | (with_reducible go_step))
  refine listF_absw ?_
  intro w1 hw1
  have k3 : Cells w1 w.heap.size [.int .i64 r.slice, .int .i64 r.load, .int .i64 r.dump, .int .i64 r.patience, .int .i64 r.rate] := by rw [hw1]; exact (Cells.new (cs := #[.int .i64 r.slice, .int .i64 r.load, .int .i64 r.dump, .int .i64 r.patience, .int .i64 r.rate]) rfl).up _
  have k7 : Cells w1 (w.heap.size + 1) [.string (shName 0), .string (shName 1), .string (shName 2), .string (shName 3), .string (shName 4), .string (shName 5), .string (shName 6), .string (shName 7)] := by rw [hw1]; exact Cells.new (cs := #[.string (shName 0), .string (shName 1), .string (shName 2), .string (shName 3), .string (shName 4), .string (shName 5), .string (shName 6), .string (shName 7)]) (by first | omega | (simp; done) | (simp; omega))
  have HB0 := hid (show Below w.heap.size w w1 by rw [hw1]; exact (by repeat (first | (with_reducible exact Below.refl _ w) | (with_reducible refine bdrewN ?_ _) | (with_reducible refine Below.drew ?_) | (with_reducible refine Below.setCell ?_ (by first | omega | (simp; done) | (simp; omega)) _) | (with_reducible refine Below.alloc ?_ (by first | omega | (simp; done) | (simp; omega)) _))))
  clear hw1
  (refine listF_abs ?_; intro s' hs'; have gl1 := congrFun hs' 1; simp only [updS_some, updS_none, Nat.reduceEqDiff, ↓reduceIte] at gl1; (try rw [sl1] at gl1); have gl2 := congrFun hs' 2; simp only [updS_some, updS_none, Nat.reduceEqDiff, ↓reduceIte] at gl2; (try rw [sl2] at gl2); have gl3 := congrFun hs' 3; simp only [updS_some, updS_none, Nat.reduceEqDiff, ↓reduceIte] at gl3; (try rw [sl3] at gl3); have gl7 := congrFun hs' 7; simp only [updS_some, updS_none, Nat.reduceEqDiff, ↓reduceIte] at gl7; (try rw [sl7] at gl7); have gl21 := congrFun hs' 21; simp only [updS_some, updS_none, Nat.reduceEqDiff, ↓reduceIte] at gl21; (try rw [sl21] at gl21); clear hs'; (try clear sl1); (try clear sl2); (try clear sl3); (try clear sl7); (try clear sl21); have sl1 := gl1; clear gl1; have sl2 := gl2; clear gl2; have sl3 := gl3; clear gl3; have sl7 := gl7; clear gl7; have sl21 := gl21; clear gl21)
  (refine listF_step rfl (fun K' hK => ?_); unfold opF; go_simp; refine (rrules_any r.slice r.load r.dump r.patience r.rate _).mono ?_; rintro e w2 ⟨rfl, hw2⟩; refine ⟨_, rfl, hK _ _ ?_⟩; clear hK K')
  have hb2 : Below w1.heap.size w1 w2 := by rw [← hw2]; exact (Below.refl _ _).alloc (Nat.le_refl _) _
  clear hw2
  have hs1 : w.heap.size + 1 < w1.heap.size := k7.1
  replace k3 := k3.at hb2
  replace k7 := k7.at hb2
  have HB1 := hid (HB0.out.trans (hb2.mono HB0.out.size) : Below w.heap.size w w2)
  have hs2 : w.heap.size + 1 < w2.heap.size := k7.1
  clear hb2 HB0
  (refine listF_abs ?_; intro s' hs'; have gl1 := congrFun hs' 1; simp only [updS_some, updS_none, Nat.reduceEqDiff, ↓reduceIte] at gl1; (try rw [sl1] at gl1); have gl2 := congrFun hs' 2; simp only [updS_some, updS_none, Nat.reduceEqDiff, ↓reduceIte] at gl2; (try rw [sl2] at gl2); have gl3 := congrFun hs' 3; simp only [updS_some, updS_none, Nat.reduceEqDiff, ↓reduceIte] at gl3; (try rw [sl3] at gl3); have gl7 := congrFun hs' 7; simp only [updS_some, updS_none, Nat.reduceEqDiff, ↓reduceIte] at gl7; (try rw [sl7] at gl7); have gl22 := congrFun hs' 22; simp only [updS_some, updS_none, Nat.reduceEqDiff, ↓reduceIte] at gl22; (try rw [sl22] at gl22); clear hs'; (try clear sl1); (try clear sl2); (try clear sl3); (try clear sl7); (try clear sl22); have sl1 := gl1; clear gl1; have sl2 := gl2; clear gl2; have sl3 := gl3; clear gl3; have sl7 := gl7; clear gl7; have sl22 := gl22; clear gl22)
  rcases Bool.eq_false_or_eq_true r.ok with hr | hr
  · have hr' : Rules.ok ⟨r.slice, r.load, r.dump, r.patience, r.rate⟩ = true := hr
    rw [hr'] at sl22
    have Hr := hid hr
    obtain ⟨_, ⟨hl0, hl1⟩, _, _, _⟩ := (Rules.ok_iff _).1 hr
    clear hr hr'
    have k3_0 := k3.cell 0 rfl
    have k3_1 := k3.cell 1 rfl
    have k3_2 := k3.cell 2 rfl
    have k3_3 := k3.cell 3 rfl
    have k3_4 := k3.cell 4 rfl
    have k3_s := k3.1
    have k3_z := k3.2.2
    repeat (first | ((first | (refine listF_step rfl (fun K' hK => ?_)) | (refine listF_yes rfl rfl (by decide) ?_ (fun K' hK => ?_); (focus (go_simp; done)))); unfold opF; go_simp; (refine hK _ _ ?_); clear hK K') | (refine listF_no (b' := true) rfl rfl (by decide) ?_ ?_ ?_; (focus (go_simp; done)); (focus rfl)) | (refine listF_no (b' := false) rfl rfl (by decide) ?_ ?_ ?_; (focus (go_simp; done)); (focus rfl)) | (refine listF_nu rfl rfl (by decide) ?_ ?_; (focus (go_simp; done))) | (refine listF_nil ?_) | (refine region_F ?_) | (refine cond_F true ?_ ?_; (focus (go_simp; done)); simp only [if_true]) | (refine cond_F false ?_ ?_; (focus (go_simp; done)); simp only [Bool.false_eq_true, if_false]) | (with_reducible go_step))
    refine wp_absw ?_
    intro w4 hw4
    have k3' : Cells w4 w.heap.size [.int .i64 256, .int .i64 r.load, .int .i64 r.dump, .int .i64 5000, .int .i64 r.rate] := by rw [hw4]; exact (by apply Cells.conv; (focus (repeat (first | (with_reducible exact k3) | (with_reducible apply Cells.set) | ((with_reducible apply Cells.setFar); case hn => omega) | (with_reducible apply Cells.up) | (with_reducible apply Cells.drew)))); rfl)
    have k7' : Cells w4 (w.heap.size + 1) [.string (shName 0), .string (shName 1), .string (shName 2), .string (shName 3), .string (shName 4), .string (shName 5), .string (shName 6), .string (shName 7)] := by rw [hw4]; exact (by apply Cells.conv; (focus (repeat (first | (with_reducible exact k7) | (with_reducible apply Cells.set) | ((with_reducible apply Cells.setFar); case hn => omega) | (with_reducible apply Cells.up) | (with_reducible apply Cells.drew)))); rfl)
    have k8 : Cells w4 w2.heap.size [.int .i64 256, .int .i64 r.load, .int .i64 r.dump, .int .i64 5000, .int .i64 r.rate, .slice none 0 0, .slice none 0 0] := by rw [hw4]; exact Cells.new (cs := #[.int .i64 256, .int .i64 r.load, .int .i64 r.dump, .int .i64 5000, .int .i64 r.rate, .slice none 0 0, .slice none 0 0]) (by first | omega | (simp; done) | (simp; omega))
    have HB4 := hid (show Below w.heap.size w w4 by rw [hw4]; exact (by repeat (first | (with_reducible exact HB1.out) | (with_reducible refine bdrewN ?_ _) | (with_reducible refine Below.drew ?_) | (with_reducible refine Below.setCell ?_ (by first | omega | (simp; done) | (simp; omega)) _) | (with_reducible refine Below.alloc ?_ (by first | omega | (simp; done) | (simp; omega)) _))))
    clear k3_0 k3_1 k3_2 k3_3 k3_4 k3_s
    clear hw4 k3_z k3 k7 HB1
    have k3 := k3'
    have k7 := k7'
    clear k3' k7'
    generalize w2.heap.size = B8 at *
    (refine wp_abs ?_; intro s' hs'; have gl1 := congrFun hs' 1; simp only [updS_some, updS_none, Nat.reduceEqDiff, ↓reduceIte] at gl1; (try rw [sl1] at gl1); have gl2 := congrFun hs' 2; simp only [updS_some, updS_none, Nat.reduceEqDiff, ↓reduceIte] at gl2; (try rw [sl2] at gl2); have gl3 := congrFun hs' 3; simp only [updS_some, updS_none, Nat.reduceEqDiff, ↓reduceIte] at gl3; (try rw [sl3] at gl3); have gl7 := congrFun hs' 7; simp only [updS_some, updS_none, Nat.reduceEqDiff, ↓reduceIte] at gl7; (try rw [sl7] at gl7); have gl8 := congrFun hs' 8; simp only [updS_some, updS_none, Nat.reduceEqDiff, ↓reduceIte] at gl8; (try rw [sl8] at gl8); have gl9 := congrFun hs' 9; simp only [updS_some, updS_none, Nat.reduceEqDiff, ↓reduceIte] at gl9; (try rw [sl9] at gl9); have gl10 := congrFun hs' 10; simp only [updS_some, updS_none, Nat.reduceEqDiff, ↓reduceIte] at gl10; (try rw [sl10] at gl10); clear hs'; (try clear sl1); (try clear sl2); (try clear sl3); (try clear sl7); (try clear sl8); (try clear sl9); (try clear sl10); have sl1 := gl1; clear gl1; have sl2 := gl2; clear gl2; have sl3 := gl3; clear gl3; have sl7 := gl7; clear gl7; have sl8 := gl8; clear gl8; have sl9 := gl9; clear gl9; have sl10 := gl10; clear gl10)
    obtain ⟨N0, hN0⟩ : ∃ N0, w4.heap.size = N0 := ⟨_, rfl⟩
    have hN8 : B8 < N0 := by rw [← hN0]; exact k8.1
    refine loop_F (n := 142) (fun m s wr => ∃ (i : Nat) (ns ot : List Int) (vj vo : Value), m = 8 - i ∧ i ≤ 8 ∧ i ≤ nd.length ∧ Hid (ns.length = i ∧ (∀ x ∈ ns, 1 ≤ x ∧ x ≤ 256) ∧ ot.Perm ns) ∧ s 1 = .slice an nd.length cn ∧ s 2 = .slice ao od.length co ∧ s 3 = .pointer (some ⟨w.heap.size, 0, none⟩) ∧ s 7 = .slice (some ⟨w.heap.size + 1, 0, none⟩) 8 8 ∧ s 8 = .pointer (some ⟨B8, 0, none⟩) ∧ s 9 = vo ∧ s 10 = .int .i64 i ∧
      Cells wr w.heap.size [.int .i64 256, .int .i64 r.load, .int .i64 r.dump, .int .i64 5000, .int .i64 r.rate] ∧ Cells wr (w.heap.size + 1) [.string (shName 0), .string (shName 1), .string (shName 2), .string (shName 3), .string (shName 4), .string (shName 5), .string (shName 6), .string (shName 7)] ∧ Cells wr B8 [.int .i64 256, .int .i64 r.load, .int .i64 r.dump, .int .i64 5000, .int .i64 r.rate, vj, .slice none 0 0] ∧ Own Job.cs 4 56 N0 wr vj (shJobs ns) ∧ Own (fun n : Int => [Value.int .i64 n]) 1 3 N0 wr vo (ot) ∧ Apart vj vo ∧ Below w.heap.size w wr ∧ N0 ≤ wr.heap.size) (k0 := 8)
      ⟨0, [], [], .slice none 0 0, .slice none 0 0, rfl, by omega, by omega, hid ⟨rfl, by simp, .refl _⟩, sl1, sl2, sl3, sl7, sl8, sl9, sl10, k3, k7, k8, Own.nil _ _ _ _ _, Own.nil _ _ _ _ _, (fun k h => by simp [Value.ownBlock] at h), HB4.out, by omega⟩ ?_
    clear sl1 sl2 sl3 sl7 sl8 sl9 sl10 k3 k7 k8 HB4
    rintro m s wr ⟨i, ns, ot, vj, vo, rfl, hi8, hin, Hns, sl1, sl2, sl3, sl7, sl8, sl9, sl10, k3, k7, k8, hOj, hOo, hap, hB, hNr⟩
    have HBr := hid hB
    clear hB
    repeat (first | (refine wp_seq_k (fun K' hK' => ?_)) | (refine wp_block ?_))
    refine cut_F (fun s wq => s 1 = .slice an nd.length cn ∧ s 2 = .slice ao od.length co ∧ s 3 = .pointer (some ⟨w.heap.size, 0, none⟩) ∧ s 7 = .slice (some ⟨w.heap.size + 1, 0, none⟩) 8 8 ∧ s 8 = .pointer (some ⟨B8, 0, none⟩) ∧ s 9 = vo ∧ s 10 = .int .i64 i ∧ s 36 = .bool (decide (i < nd.length) && decide (i < 8)) ∧ wq = wr) ?_ ?_
    · rcases dec_or (i < nd.length) with t1 | t1
      all_goals repeat (first | ((first | (refine listF_step rfl (fun K' hK => ?_)) | (refine listF_yes rfl rfl (by decide) ?_ (fun K' hK => ?_); (focus (go_simp; done)))); unfold opF; go_simp; (refine hK _ _ ?_); clear hK K') | (refine listF_no (b' := true) rfl rfl (by decide) ?_ ?_ ?_; (focus (go_simp; done)); (focus rfl)) | (refine listF_no (b' := false) rfl rfl (by decide) ?_ ?_ ?_; (focus (go_simp; done)); (focus rfl)) | (refine listF_nu rfl rfl (by decide) ?_ ?_; (focus (go_simp; done))) | (refine listF_nil ?_) | (refine region_F ?_) | (refine cond_F true ?_ ?_; (focus (go_simp; done)); simp only [if_true]) | (refine cond_F false ?_ ?_; (focus (go_simp; done)); simp only [Bool.false_eq_true, if_false]) | (with_reducible go_step))
      all_goals exact ⟨rfl, _, rfl, (by first | (go_simp; done) | exact sl1 | (simp only [updS_some, updS_none, Nat.reduceEqDiff, ↓reduceIte]; exact sl1)), (by first | (go_simp; done) | exact sl2 | (simp only [updS_some, updS_none, Nat.reduceEqDiff, ↓reduceIte]; exact sl2)), (by first | (go_simp; done) | exact sl3 | (simp only [updS_some, updS_none, Nat.reduceEqDiff, ↓reduceIte]; exact sl3)), (by first | (go_simp; done) | exact sl7 | (simp only [updS_some, updS_none, Nat.reduceEqDiff, ↓reduceIte]; exact sl7)), (by first | (go_simp; done) | exact sl8 | (simp only [updS_some, updS_none, Nat.reduceEqDiff, ↓reduceIte]; exact sl8)), (by first | (go_simp; done) | exact sl9 | (simp only [updS_some, updS_none, Nat.reduceEqDiff, ↓reduceIte]; exact sl9)), (by first | (go_simp; done) | exact sl10 | (simp only [updS_some, updS_none, Nat.reduceEqDiff, ↓reduceIte]; exact sl10)), (by first | (go_simp; done) | (simp [updS, t1]; done) | (rw [t1]; go_simp; done) | (rw [t1]; simp [updS]; done) | (rw [t1]; simp [updS]; omega)), rfl⟩
    clear sl1 sl2 sl3 sl7 sl8 sl9 sl10
    rintro s wq ⟨sl1, sl2, sl3, sl7, sl8, sl9, sl10, sl36, rfl⟩
    rcases Bool.eq_false_or_eq_true (decide (i < nd.length) && decide (i < 8)) with hc | hc
    · rw [hc] at sl36
      simp only [Bool.and_eq_true, decide_eq_true_eq] at hc
      obtain ⟨hlt, hl8⟩ := hc
      have hl8i : (i : Int) < 8 := by omega
      have hnw := Rd.at Hn.out HBr.out
      obtain ⟨x1, o1, rfl, hx1, d1⟩ := RdU8.ne hnw hlt
      have hxb := Hnb.out nd[i] (List.getElem_mem hlt)
      generalize nd[i] = x at *
      have hwx : IntKind.i64.wrap x = x := IntWalk.i64_in _ (by omega)
      have hwx1 : IntKind.i64.wrap (1 + x) = 1 + x := IntWalk.i64_in _ (by omega)
      have Hnm := hid (show ([.string (shName 0), .string (shName 1), .string (shName 2), .string (shName 3), .string (shName 4), .string (shName 5), .string (shName 6), .string (shName 7)] : List Value)[i]? = some (.string (shName i)) by match i, hl8 with | 0, _ => rfl | 1, _ => rfl | 2, _ => rfl | 3, _ => rfl | 4, _ => rfl | 5, _ => rfl | 6, _ => rfl | 7, _ => rfl)
      repeat (first | ((first | (refine listF_step rfl (fun K' hK => ?_)) | (refine listF_yes rfl rfl (by decide) ?_ (fun K' hK => ?_); (focus (go_simp; done)))); unfold opF; go_simp; (refine hK _ _ ?_); clear hK K') | (refine listF_no (b' := true) rfl rfl (by decide) ?_ ?_ ?_; (focus (go_simp; done)); (focus rfl)) | (refine listF_no (b' := false) rfl rfl (by decide) ?_ ?_ ?_; (focus (go_simp; done)); (focus rfl)) | (refine listF_nu rfl rfl (by decide) ?_ ?_; (focus (go_simp; done))) | (refine listF_nil ?_) | (refine region_F ?_) | (refine cond_F true ?_ ?_; (focus (go_simp; done)); simp only [if_true]) | (refine cond_F false ?_ ?_; (focus (go_simp; done)); simp only [Bool.false_eq_true, if_false]) | (with_reducible go_step))
      (refine wp_abs ?_; intro s' hs'; have gl1 := congrFun hs' 1; simp only [updS_some, updS_none, Nat.reduceEqDiff, ↓reduceIte] at gl1; (try rw [sl1] at gl1); have gl2 := congrFun hs' 2; simp only [updS_some, updS_none, Nat.reduceEqDiff, ↓reduceIte] at gl2; (try rw [sl2] at gl2); have gl3 := congrFun hs' 3; simp only [updS_some, updS_none, Nat.reduceEqDiff, ↓reduceIte] at gl3; (try rw [sl3] at gl3); have gl7 := congrFun hs' 7; simp only [updS_some, updS_none, Nat.reduceEqDiff, ↓reduceIte] at gl7; (try rw [sl7] at gl7); have gl8 := congrFun hs' 8; simp only [updS_some, updS_none, Nat.reduceEqDiff, ↓reduceIte] at gl8; (try rw [sl8] at gl8); have gl9 := congrFun hs' 9; simp only [updS_some, updS_none, Nat.reduceEqDiff, ↓reduceIte] at gl9; (try rw [sl9] at gl9); have gl10 := congrFun hs' 10; simp only [updS_some, updS_none, Nat.reduceEqDiff, ↓reduceIte] at gl10; (try rw [sl10] at gl10); have gl11 := congrFun hs' 11; simp only [updS_some, updS_none, Nat.reduceEqDiff, ↓reduceIte] at gl11; (try rw [sl11] at gl11); clear hs'; (try clear sl1); (try clear sl2); (try clear sl3); (try clear sl7); (try clear sl8); (try clear sl9); (try clear sl10); (try clear sl11); have sl1 := gl1; clear gl1; have sl2 := gl2; clear gl2; have sl3 := gl3; clear gl3; have sl7 := gl7; clear gl7; have sl8 := gl8; clear gl8; have sl9 := gl9; clear gl9; have sl10 := gl10; clear gl10; have sl11 := gl11; clear gl11)
      clear d1 hwx hwx1 hnw
      refine cut_F (fun s wq' => ∃ vj2, s 1 = .slice (some ⟨x1, o1, none⟩) nd.length cn ∧ s 2 = .slice ao od.length co ∧ s 3 = .pointer (some ⟨w.heap.size, 0, none⟩) ∧ s 7 = .slice (some ⟨w.heap.size + 1, 0, none⟩) 8 8 ∧ s 8 = .pointer (some ⟨B8, 0, none⟩) ∧ s 9 = vo ∧ s 10 = .int .i64 i ∧ s 11 = .int .i64 (1 + x) ∧
        Cells wq' w.heap.size [.int .i64 256, .int .i64 r.load, .int .i64 r.dump, .int .i64 5000, .int .i64 r.rate] ∧ Cells wq' (w.heap.size + 1) [.string (shName 0), .string (shName 1), .string (shName 2), .string (shName 3), .string (shName 4), .string (shName 5), .string (shName 6), .string (shName 7)] ∧ Cells wq' B8 [.int .i64 256, .int .i64 r.load, .int .i64 r.dump, .int .i64 5000, .int .i64 r.rate, vj2, .slice none 0 0] ∧ Own Job.cs 4 56 N0 wq' vj2 (shJobs ns ++ [shJob i (1 + x)]) ∧ Own (fun n : Int => [Value.int .i64 n]) 1 3 N0 wq' vo (ot) ∧ Apart vo vj2 ∧ Below w.heap.size w wq' ∧ N0 ≤ wq'.heap.size) ?_ ?_
      · have hnl8 : (shJobs ns).length ≤ 8 := by rw [shJobs_len]; have := Hns.out.1; omega
        refine regionI_F (fun (LJ : Nat → Bool) (sJ : Nat → Value) (wJ : World) => Cells wJ w.heap.size [.int .i64 256, .int .i64 r.load, .int .i64 r.dump, .int .i64 5000, .int .i64 r.rate] ∧ Cells wJ (w.heap.size + 1) [.string (shName 0), .string (shName 1), .string (shName 2), .string (shName 3), .string (shName 4), .string (shName 5), .string (shName 6), .string (shName 7)] ∧ (LJ 12 = false → Cells wJ B8 [.int .i64 256, .int .i64 r.load, .int .i64 r.dump, .int .i64 5000, .int .i64 r.rate, vj, .slice none 0 0]) ∧ (LJ 12 = true → Cells wJ B8 [.int .i64 256, .int .i64 r.load, .int .i64 r.dump, .int .i64 5000, .int .i64 r.rate, sJ 55, .slice none 0 0]) ∧ (LJ 12 = true → LJ 10 = true) ∧ Below w.heap.size w wJ ∧ N0 ≤ wJ.heap.size ∧ (LJ 12 = true → LJ 1 = true) ∧ sJ 1 = .slice (some ⟨x1, o1, none⟩) nd.length cn ∧ sJ 2 = .slice ao od.length co ∧ sJ 3 = .pointer (some ⟨w.heap.size, 0, none⟩) ∧ sJ 7 = .slice (some ⟨w.heap.size + 1, 0, none⟩) 8 8 ∧ sJ 8 = .pointer (some ⟨B8, 0, none⟩) ∧ sJ 9 = vo ∧ sJ 10 = .int .i64 i ∧ sJ 11 = .int .i64 (1 + x) ∧ (LJ 0 = true → sJ 45 = .pointer (some ⟨B8, 5, none⟩)) ∧ (LJ 1 = true → sJ 46 = vj) ∧ (LJ 2 = true → sJ 47 = .slice (some ⟨w.heap.size + 1, 0, none⟩) 8 8) ∧ (LJ 3 = true → sJ 48 = .int .i64 i) ∧ (LJ 4 = true → sJ 49 = .pointer (some ⟨w.heap.size + 1, i, none⟩)) ∧ (LJ 5 = true → sJ 50 = .string (shName i)) ∧ (LJ 6 = true → sJ 51 = .int .i64 (1 + x)) ∧ (LJ 7 = true → sJ 52 = .int .i64 (1 + x)) ∧ (LJ 8 = true → sJ 53 = .agg #[.string (shName i), .int .i64 0, .int .i64 (1 + x), .int .i64 (1 + x)]) ∧ (LJ 11 = true → sJ 56 = .pointer (some ⟨B8, 5, none⟩)) ∧ (LJ 10 = false → Own Job.cs 4 56 N0 wJ vj (shJobs ns)) ∧ (Own (fun n : Int => [Value.int .i64 n]) 1 3 N0 wJ vo ot) ∧ (LJ 9 = true → Own Job.cs 4 56 N0 wJ (sJ 54) [shJob i (1 + x)]) ∧ (LJ 10 = true → Own Job.cs 4 56 N0 wJ (sJ 55) (shJobs ns ++ [shJob i (1 + x)])) ∧ (LJ 10 = false → Apart vj vo) ∧ (LJ 10 = false → LJ 9 = true → Apart vj (sJ 54)) ∧ (LJ 9 = true → Apart vo (sJ 54)) ∧ (LJ 10 = true → Apart vo (sJ 55)) ∧ (LJ 9 = true → LJ 10 = true → Apart (sJ 54) (sJ 55))) (by kernel_rfl) (by kernel_rfl) (by kernel_rfl) ?_ ?_ ⟨?_, ?_, ?_, ?_, ?_, ?_, ?_, ?_, ?_, ?_, ?_, ?_, ?_, trivial⟩
        · refine ⟨(by repeat (first | (with_reducible exact k3) | (with_reducible refine Cells.drew ?_) | (with_reducible refine Cells.up ?_ _) | (with_reducible refine Cells.setFar ?_ (by omega)))), (by repeat (first | (with_reducible exact k7) | (with_reducible refine Cells.drew ?_) | (with_reducible refine Cells.up ?_ _) | (with_reducible refine Cells.setFar ?_ (by omega)))), fun _ => (by repeat (first | (with_reducible exact k8) | (with_reducible refine Cells.drew ?_) | (with_reducible refine Cells.up ?_ _) | (with_reducible refine Cells.setFar ?_ (by omega)))), (by simp), (by simp), (by repeat (first | (with_reducible exact HBr.out) | (with_reducible refine bdrewN ?_ _) | (with_reducible refine Below.drew ?_) | (with_reducible refine Below.setCell ?_ (by first | omega | (simp; done) | (simp; omega)) _) | (with_reducible refine Below.alloc ?_ (by first | omega | (simp; done) | (simp; omega)) _))), (by first | omega | (simp; done) | (simp; omega)), (by simp), ?_, ?_, ?_, ?_, ?_, ?_, ?_, ?_, (by simp), (by simp), (by simp), (by simp), (by simp), (by simp), (by simp), (by simp), (by simp), (by simp), (fun _ => hOj), (hOo), (by simp), (by simp), (fun _ => hap), (by simp), (by simp), (by simp), (by simp)⟩
          · go_simp
          · go_simp
          · go_simp
          · go_simp
          · go_simp
          · go_simp
          · go_simp
          · go_simp
        · rintro sJ wJ ⟨kB0, kB1, kB2, kC2, kO2, kLow, kSz, kZ12_1, hs1, hs2, hs3, hs7, hs8, hs9, hs10, hs11, hv0, hv1, hv2, hv3, hv4, hv5, hv6, hv7, hv8, hv11, kP0, kP1, kW9, kW10, kEP0_P1, kEP0_W9, kEP1_W9, kEP1_W10, kEW9_W10⟩
          replace kB2 := kC2 (by simp)
          clear kC2
          clear kO2
          clear kZ12_1
          replace hv0 := hv0 (by simp)
          replace hv1 := hv1 (by simp)
          replace hv2 := hv2 (by simp)
          replace hv3 := hv3 (by simp)
          replace hv4 := hv4 (by simp)
          replace hv5 := hv5 (by simp)
          replace hv6 := hv6 (by simp)
          replace hv7 := hv7 (by simp)
          replace hv8 := hv8 (by simp)
          replace hv11 := hv11 (by simp)
          clear kP0
          skip
          replace kW9 := kW9 (by simp)
          replace kW10 := kW10 (by simp)
          clear kEP0_P1
          clear kEP0_W9
          replace kEP1_W9 := kEP1_W9 (by simp)
          replace kEP1_W10 := kEP1_W10 (by simp)
          replace kEW9_W10 := kEW9_W10 (by simp) (by simp)
          exact ⟨rfl, _, rfl, sJ 55, by go_simp, by go_simp, by go_simp, by go_simp, by go_simp, by go_simp, by go_simp, by go_simp, kB0, kB1, kB2, kW10, kP1, by simpa using kEP1_W10, kLow, kSz⟩
        · rintro LJ sJ wJ hL hd ⟨kB0, kB1, kB2, kC2, kO2, kLow, kSz, kZ12_1, hs1, hs2, hs3, hs7, hs8, hs9, hs10, hs11, hv0, hv1, hv2, hv3, hv4, hv5, hv6, hv7, hv8, hv11, kP0, kP1, kW9, kW10, kEP0_P1, kEP0_W9, kEP1_W9, kEP1_W10, kEW9_W10⟩ K hK
          clear hd
          rw [if_pos (by rfl)]
          unfold opF
          go_simp
          refine hK _ _ ⟨?_, ?_, ?_, ?_, ?_, ?_, ?_, ?_, ?_, ?_, ?_, ?_, ?_, ?_, ?_, ?_, ?_, ?_, ?_, ?_, ?_, ?_, ?_, ?_, ?_, ?_, ?_, ?_, ?_, ?_, ?_, ?_, ?_, ?_, ?_⟩ <;> first | assumption | (simp [upd, updS]; done) | (simp [upd, updS]; assumption)
        · rintro LJ sJ wJ hL hd ⟨kB0, kB1, kB2, kC2, kO2, kLow, kSz, kZ12_1, hs1, hs2, hs3, hs7, hs8, hs9, hs10, hs11, hv0, hv1, hv2, hv3, hv4, hv5, hv6, hv7, hv8, hv11, kP0, kP1, kW9, kW10, kEP0_P1, kEP0_W9, kEP1_W9, kEP1_W10, kEW9_W10⟩ K hK
          have ga0 := hd ⟨0, .data⟩ (by simp) rfl
          have gv0 := hv0 ga0
          clear hd
          rw [if_pos (by rfl)]
          unfold opF
          have kN2 := kB2 (by cases hh : LJ 12 with | false => rfl | true => exact absurd (kZ12_1 hh) (by rw [hL]; decide))
          have cc2_0 := kN2.cell 0 rfl
          have cc2_1 := kN2.cell 1 rfl
          have cc2_2 := kN2.cell 2 rfl
          have cc2_3 := kN2.cell 3 rfl
          have cc2_4 := kN2.cell 4 rfl
          have cc2_5 := kN2.cell 5 rfl
          have cc2_6 := kN2.cell 6 rfl
          have ccs2 := kN2.1
          go_simp
          refine hK _ _ ⟨?_, ?_, ?_, ?_, ?_, ?_, ?_, ?_, ?_, ?_, ?_, ?_, ?_, ?_, ?_, ?_, ?_, ?_, ?_, ?_, ?_, ?_, ?_, ?_, ?_, ?_, ?_, ?_, ?_, ?_, ?_, ?_, ?_, ?_, ?_⟩ <;> first | assumption | (simp [upd, updS]; done) | (simp [upd, updS]; assumption)
        · rintro LJ sJ wJ hL hd ⟨kB0, kB1, kB2, kC2, kO2, kLow, kSz, kZ12_1, hs1, hs2, hs3, hs7, hs8, hs9, hs10, hs11, hv0, hv1, hv2, hv3, hv4, hv5, hv6, hv7, hv8, hv11, kP0, kP1, kW9, kW10, kEP0_P1, kEP0_W9, kEP1_W9, kEP1_W10, kEW9_W10⟩ K hK
          clear hd
          rw [if_pos (by rfl)]
          unfold opF
          go_simp
          refine hK _ _ ⟨?_, ?_, ?_, ?_, ?_, ?_, ?_, ?_, ?_, ?_, ?_, ?_, ?_, ?_, ?_, ?_, ?_, ?_, ?_, ?_, ?_, ?_, ?_, ?_, ?_, ?_, ?_, ?_, ?_, ?_, ?_, ?_, ?_, ?_, ?_⟩ <;> first | assumption | (simp [upd, updS]; done) | (simp [upd, updS]; assumption)
        · rintro LJ sJ wJ hL hd ⟨kB0, kB1, kB2, kC2, kO2, kLow, kSz, kZ12_1, hs1, hs2, hs3, hs7, hs8, hs9, hs10, hs11, hv0, hv1, hv2, hv3, hv4, hv5, hv6, hv7, hv8, hv11, kP0, kP1, kW9, kW10, kEP0_P1, kEP0_W9, kEP1_W9, kEP1_W10, kEW9_W10⟩ K hK
          clear hd
          rw [if_pos (by rfl)]
          unfold opF
          go_simp
          refine hK _ _ ⟨?_, ?_, ?_, ?_, ?_, ?_, ?_, ?_, ?_, ?_, ?_, ?_, ?_, ?_, ?_, ?_, ?_, ?_, ?_, ?_, ?_, ?_, ?_, ?_, ?_, ?_, ?_, ?_, ?_, ?_, ?_, ?_, ?_, ?_, ?_⟩ <;> first | assumption | (simp [upd, updS]; done) | (simp [upd, updS]; assumption)
        · rintro LJ sJ wJ hL hd ⟨kB0, kB1, kB2, kC2, kO2, kLow, kSz, kZ12_1, hs1, hs2, hs3, hs7, hs8, hs9, hs10, hs11, hv0, hv1, hv2, hv3, hv4, hv5, hv6, hv7, hv8, hv11, kP0, kP1, kW9, kW10, kEP0_P1, kEP0_W9, kEP1_W9, kEP1_W10, kEW9_W10⟩ K hK
          have ga2 := hd ⟨2, .data⟩ (by simp) rfl
          have gv2 := hv2 ga2
          have ga3 := hd ⟨3, .data⟩ (by simp) rfl
          have gv3 := hv3 ga3
          clear hd
          rw [if_pos (by rfl)]
          unfold opF
          go_simp
          refine hK _ _ ⟨?_, ?_, ?_, ?_, ?_, ?_, ?_, ?_, ?_, ?_, ?_, ?_, ?_, ?_, ?_, ?_, ?_, ?_, ?_, ?_, ?_, ?_, ?_, ?_, ?_, ?_, ?_, ?_, ?_, ?_, ?_, ?_, ?_, ?_, ?_⟩ <;> first | assumption | (simp [upd, updS]; done) | (simp [upd, updS]; assumption)
        · rintro LJ sJ wJ hL hd ⟨kB0, kB1, kB2, kC2, kO2, kLow, kSz, kZ12_1, hs1, hs2, hs3, hs7, hs8, hs9, hs10, hs11, hv0, hv1, hv2, hv3, hv4, hv5, hv6, hv7, hv8, hv11, kP0, kP1, kW9, kW10, kEP0_P1, kEP0_W9, kEP1_W9, kEP1_W10, kEW9_W10⟩ K hK
          have ga4 := hd ⟨4, .data⟩ (by simp) rfl
          have gv4 := hv4 ga4
          clear hd
          rw [if_pos (by rfl)]
          unfold opF
          have ccn := kB1.cell i Hnm.out
          have ccs1 := kB1.1
          go_simp
          refine hK _ _ ⟨?_, ?_, ?_, ?_, ?_, ?_, ?_, ?_, ?_, ?_, ?_, ?_, ?_, ?_, ?_, ?_, ?_, ?_, ?_, ?_, ?_, ?_, ?_, ?_, ?_, ?_, ?_, ?_, ?_, ?_, ?_, ?_, ?_, ?_, ?_⟩ <;> first | assumption | (simp [upd, updS]; done) | (simp [upd, updS]; assumption)
        · rintro LJ sJ wJ hL hd ⟨kB0, kB1, kB2, kC2, kO2, kLow, kSz, kZ12_1, hs1, hs2, hs3, hs7, hs8, hs9, hs10, hs11, hv0, hv1, hv2, hv3, hv4, hv5, hv6, hv7, hv8, hv11, kP0, kP1, kW9, kW10, kEP0_P1, kEP0_W9, kEP1_W9, kEP1_W10, kEW9_W10⟩ K hK
          clear hd
          rw [if_pos (by rfl)]
          unfold opF
          go_simp
          refine hK _ _ ⟨?_, ?_, ?_, ?_, ?_, ?_, ?_, ?_, ?_, ?_, ?_, ?_, ?_, ?_, ?_, ?_, ?_, ?_, ?_, ?_, ?_, ?_, ?_, ?_, ?_, ?_, ?_, ?_, ?_, ?_, ?_, ?_, ?_, ?_, ?_⟩ <;> first | assumption | (simp [upd, updS]; done) | (simp [upd, updS]; assumption)
        · rintro LJ sJ wJ hL hd ⟨kB0, kB1, kB2, kC2, kO2, kLow, kSz, kZ12_1, hs1, hs2, hs3, hs7, hs8, hs9, hs10, hs11, hv0, hv1, hv2, hv3, hv4, hv5, hv6, hv7, hv8, hv11, kP0, kP1, kW9, kW10, kEP0_P1, kEP0_W9, kEP1_W9, kEP1_W10, kEW9_W10⟩ K hK
          clear hd
          rw [if_pos (by rfl)]
          unfold opF
          go_simp
          refine hK _ _ ⟨?_, ?_, ?_, ?_, ?_, ?_, ?_, ?_, ?_, ?_, ?_, ?_, ?_, ?_, ?_, ?_, ?_, ?_, ?_, ?_, ?_, ?_, ?_, ?_, ?_, ?_, ?_, ?_, ?_, ?_, ?_, ?_, ?_, ?_, ?_⟩ <;> first | assumption | (simp [upd, updS]; done) | (simp [upd, updS]; assumption)
        · rintro LJ sJ wJ hL hd ⟨kB0, kB1, kB2, kC2, kO2, kLow, kSz, kZ12_1, hs1, hs2, hs3, hs7, hs8, hs9, hs10, hs11, hv0, hv1, hv2, hv3, hv4, hv5, hv6, hv7, hv8, hv11, kP0, kP1, kW9, kW10, kEP0_P1, kEP0_W9, kEP1_W9, kEP1_W10, kEW9_W10⟩ K hK
          have ga5 := hd ⟨5, .data⟩ (by simp) rfl
          have gv5 := hv5 ga5
          have ga6 := hd ⟨6, .data⟩ (by simp) rfl
          have gv6 := hv6 ga6
          have ga7 := hd ⟨7, .data⟩ (by simp) rfl
          have gv7 := hv7 ga7
          clear hd
          rw [if_pos (by rfl)]
          unfold opF
          go_simp
          refine hK _ _ ⟨?_, ?_, ?_, ?_, ?_, ?_, ?_, ?_, ?_, ?_, ?_, ?_, ?_, ?_, ?_, ?_, ?_, ?_, ?_, ?_, ?_, ?_, ?_, ?_, ?_, ?_, ?_, ?_, ?_, ?_, ?_, ?_, ?_, ?_, ?_⟩ <;> first | assumption | (simp [upd, updS]; done) | (simp [upd, updS]; assumption)
        · rintro LJ sJ wJ hL hd ⟨kB0, kB1, kB2, kC2, kO2, kLow, kSz, kZ12_1, hs1, hs2, hs3, hs7, hs8, hs9, hs10, hs11, hv0, hv1, hv2, hv3, hv4, hv5, hv6, hv7, hv8, hv11, kP0, kP1, kW9, kW10, kEP0_P1, kEP0_W9, kEP1_W9, kEP1_W10, kEW9_W10⟩ K hK
          have ga8 := hd ⟨8, .data⟩ (by simp) rfl
          have gv8 := hv8 ga8
          clear hd
          rw [if_pos (by rfl)]
          unfold opF
          go_simp
          exact hK _ _ ⟨(Cells.up (kB0) _), (Cells.up (kB1) _), (fun h => by have h := (by simpa [upd] using h : LJ 12 = false); exact Cells.up (kB2 h) _), (fun h => by have h := (by simpa [upd] using h : LJ 12 = true); refine Cells.up ?_ _; simpa [updS] using kC2 h), (by simpa [upd] using kO2), (kLow.alloc (by omega) _), (by first | omega | (simp; done) | (simp; omega) | (have := hG.size; omega)), (by simpa [upd] using kZ12_1), (by simpa [upd, updS] using hs1), (by simpa [upd, updS] using hs2), (by simpa [upd, updS] using hs3), (by simpa [upd, updS] using hs7), (by simpa [upd, updS] using hs8), (by simpa [upd, updS] using hs9), (by simpa [upd, updS] using hs10), (by simpa [upd, updS] using hs11), (by simpa [upd, updS] using hv0), (by simpa [upd, updS] using hv1), (by simpa [upd, updS] using hv2), (by simpa [upd, updS] using hv3), (by simpa [upd, updS] using hv4), (by simpa [upd, updS] using hv5), (by simpa [upd, updS] using hv6), (by simpa [upd, updS] using hv7), (by simpa [upd, updS] using hv8), (by simpa [upd, updS] using hv11), (fun h1 => by have h1 := (by simpa [upd] using h1 : LJ 10 = false); simpa [updS] using Own.alloc (kP0 h1) _), (by simpa [updS] using Own.alloc kP1 _), (fun _ => by first | exact Own.lit (by omega) (by unfold maxLen; simp) (by rfl) (fun _ => rfl) | (simp only [updS_some, ↓reduceIte]; exact Own.lit (by omega) (by unfold maxLen; simp) (by rfl) (fun _ => rfl)) | (simpa [updS] using Own.lit (by omega) (by unfold maxLen; simp) (by rfl) (fun _ => rfl))), (fun h1 => by have h1 := (by simpa [upd] using h1 : LJ 10 = true); simpa [updS] using Own.alloc (kW10 h1) _), (fun h1 => by have h1 := (by simpa [upd] using h1 : LJ 10 = false); simpa [updS] using kEP0_P1 h1), (fun h1 h2 => by have h1 := (by simpa [upd] using h1 : LJ 10 = false); simpa [updS] using Apart.new (kP0 h1) _ _), (fun h1 => by simpa [updS] using Apart.new kP1 _ _), (fun h1 => by have h1 := (by simpa [upd] using h1 : LJ 10 = true); simpa [updS] using kEP1_W10 h1), (fun h1 h2 => by have h2 := (by simpa [upd] using h2 : LJ 10 = true); simpa [updS] using (Apart.new (kW10 h2) _ _).symm)⟩
        · rintro LJ sJ wJ hL hd ⟨kB0, kB1, kB2, kC2, kO2, kLow, kSz, kZ12_1, hs1, hs2, hs3, hs7, hs8, hs9, hs10, hs11, hv0, hv1, hv2, hv3, hv4, hv5, hv6, hv7, hv8, hv11, kP0, kP1, kW9, kW10, kEP0_P1, kEP0_W9, kEP1_W9, kEP1_W10, kEW9_W10⟩ K hK
          have ga1 := hd ⟨1, .data⟩ (by simp) rfl
          have gv1 := hv1 ga1
          have ga9 := hd ⟨9, .data⟩ (by simp) rfl
          clear hd
          rw [if_pos (by rfl)]
          have hcj : LJ 10 = false := hL
          have kWx := kP0 hcj
          have kWy := kW9 ga9
          obtain ⟨ay, cy, hvy, hry, hny⟩ := Own.slice (f := Job.cs) (m := 4) (fun _ => rfl) kWy
          refine opF_app (d := 55) rfl (by decide) (.tmp 46) (.tmp 54) _ rfl 56 i1 _ 40 Try.underlying24 hi1 hy0 hy1 hy2 rfl (by decide) (fun _ => rfl) job_one N0 vj (shJobs ns) [shJob i (1 + x)] ay cy (by go_simp) (by simpa using hvy) kWx hry (by simp; unfold maxLen; omega) (by simp; omega) (by omega) (fun v' w' hO hG hV => ?_)
          exact hK _ _ ⟨(Cells.grown (kB0) hG (Own.far kWx (by omega))), (Cells.grown (kB1) hG (Own.far kWx (by omega))), (fun h => by have h := (by simpa [upd] using h : LJ 12 = false); exact Cells.grown (kB2 h) hG (Own.far kWx (by omega))), (fun h => by have h := (by simpa [upd] using h : LJ 12 = true); exact absurd (kO2 h) (by rw [hL]; decide)), (by simp [upd]), (low_grown kLow hG (by omega) (fun k hk => by have := (World.ownsRow.lt kWx k hk).1; omega)), (by first | omega | (simp; done) | (simp; omega) | (have := hG.size; omega)), (by simpa [upd] using kZ12_1), (by simpa [upd, updS] using hs1), (by simpa [upd, updS] using hs2), (by simpa [upd, updS] using hs3), (by simpa [upd, updS] using hs7), (by simpa [upd, updS] using hs8), (by simpa [upd, updS] using hs9), (by simpa [upd, updS] using hs10), (by simpa [upd, updS] using hs11), (by simpa [upd, updS] using hv0), (by simpa [upd, updS] using hv1), (by simpa [upd, updS] using hv2), (by simpa [upd, updS] using hv3), (by simpa [upd, updS] using hv4), (by simpa [upd, updS] using hv5), (by simpa [upd, updS] using hv6), (by simpa [upd, updS] using hv7), (by simpa [upd, updS] using hv8), (by simpa [upd, updS] using hv11), (fun h1 => by simp [upd] at h1), (by simpa [updS] using Own.grown kP1 hG (kEP0_P1 hcj).symm), (fun h1 => by have h1 := (by simpa [upd] using h1 : LJ 9 = true); simpa [updS] using Own.grown (kW9 h1) hG (kEP0_W9 hcj h1).symm), (fun _ => by first | exact hO | (simp only [updS_some, ↓reduceIte]; exact hO) | (simpa [updS] using hO)), (fun h1 => by simp [upd] at h1), (fun h1 h2 => by simp [upd] at h1), (fun h1 => by have h1 := (by simpa [upd] using h1 : LJ 9 = true); simpa [updS] using kEP1_W9 h1), (fun h1 => by simpa [updS] using Apart.app kP1 (kEP0_P1 hcj).symm hV), (fun h1 h2 => by have h1 := (by simpa [upd] using h1 : LJ 9 = true); simpa [updS] using Apart.app (kW9 h1) (kEP0_W9 hcj h1).symm hV)⟩
        · rintro LJ sJ wJ hL hd ⟨kB0, kB1, kB2, kC2, kO2, kLow, kSz, kZ12_1, hs1, hs2, hs3, hs7, hs8, hs9, hs10, hs11, hv0, hv1, hv2, hv3, hv4, hv5, hv6, hv7, hv8, hv11, kP0, kP1, kW9, kW10, kEP0_P1, kEP0_W9, kEP1_W9, kEP1_W10, kEW9_W10⟩ K hK
          have ga0 := hd ⟨0, .phase⟩ (by simp) rfl
          have gv0 := hv0 ga0
          have ga1 := hd ⟨1, .phase⟩ (by simp) rfl
          have gv1 := hv1 ga1
          have ga2 := hd ⟨2, .phase⟩ (by simp) rfl
          have gv2 := hv2 ga2
          have ga3 := hd ⟨3, .phase⟩ (by simp) rfl
          have gv3 := hv3 ga3
          have ga4 := hd ⟨4, .phase⟩ (by simp) rfl
          have gv4 := hv4 ga4
          have ga5 := hd ⟨5, .phase⟩ (by simp) rfl
          have gv5 := hv5 ga5
          have ga6 := hd ⟨6, .phase⟩ (by simp) rfl
          have gv6 := hv6 ga6
          have ga7 := hd ⟨7, .phase⟩ (by simp) rfl
          have gv7 := hv7 ga7
          have ga8 := hd ⟨8, .phase⟩ (by simp) rfl
          have gv8 := hv8 ga8
          have ga9 := hd ⟨9, .phase⟩ (by simp) rfl
          have ga10 := hd ⟨10, .phase⟩ (by simp) rfl
          clear hd
          rw [if_pos (by rfl)]
          unfold opF
          go_simp
          refine hK _ _ ⟨?_, ?_, ?_, ?_, ?_, ?_, ?_, ?_, ?_, ?_, ?_, ?_, ?_, ?_, ?_, ?_, ?_, ?_, ?_, ?_, ?_, ?_, ?_, ?_, ?_, ?_, ?_, ?_, ?_, ?_, ?_, ?_, ?_, ?_, ?_⟩ <;> first | assumption | (simp [upd, updS]; done) | (simp [upd, updS]; assumption)
        · rintro LJ sJ wJ hL hd ⟨kB0, kB1, kB2, kC2, kO2, kLow, kSz, kZ12_1, hs1, hs2, hs3, hs7, hs8, hs9, hs10, hs11, hv0, hv1, hv2, hv3, hv4, hv5, hv6, hv7, hv8, hv11, kP0, kP1, kW9, kW10, kEP0_P1, kEP0_W9, kEP1_W9, kEP1_W10, kEW9_W10⟩ K hK
          have ga11 := hd ⟨11, .data⟩ (by simp) rfl
          have gv11 := hv11 ga11
          have ga10 := hd ⟨10, .data⟩ (by simp) rfl
          have ga10 := hd ⟨10, .chain⟩ (by simp) rfl
          have ga0 := hd ⟨0, .phase⟩ (by simp) rfl
          have gv0 := hv0 ga0
          have ga1 := hd ⟨1, .phase⟩ (by simp) rfl
          have gv1 := hv1 ga1
          have ga2 := hd ⟨2, .phase⟩ (by simp) rfl
          have gv2 := hv2 ga2
          have ga3 := hd ⟨3, .phase⟩ (by simp) rfl
          have gv3 := hv3 ga3
          have ga4 := hd ⟨4, .phase⟩ (by simp) rfl
          have gv4 := hv4 ga4
          have ga5 := hd ⟨5, .phase⟩ (by simp) rfl
          have gv5 := hv5 ga5
          have ga6 := hd ⟨6, .phase⟩ (by simp) rfl
          have gv6 := hv6 ga6
          have ga7 := hd ⟨7, .phase⟩ (by simp) rfl
          have gv7 := hv7 ga7
          have ga8 := hd ⟨8, .phase⟩ (by simp) rfl
          have gv8 := hv8 ga8
          have ga9 := hd ⟨9, .phase⟩ (by simp) rfl
          have ga10 := hd ⟨10, .phase⟩ (by simp) rfl
          clear hd
          rw [if_pos (by rfl)]
          have kWs := kW10 (by first | assumption | exact ga10)
          obtain ⟨ay, cy, hvy, _, _⟩ := Own.slice (f := Job.cs) (m := 4) (fun _ => rfl) kWs
          have kN2 := kB2 hL
          have cc2_0 := kN2.cell 0 rfl
          have cc2_1 := kN2.cell 1 rfl
          have cc2_2 := kN2.cell 2 rfl
          have cc2_3 := kN2.cell 3 rfl
          have cc2_4 := kN2.cell 4 rfl
          have cc2_5 := kN2.cell 5 rfl
          have cc2_6 := kN2.cell 6 rfl
          have ccs := kN2.1
          have ccz := kN2.2.2
          have Hvy := hid hvy
          unfold opF
          go_simp
          exact hK undef _ ⟨(Cells.setFar (kB0) (by omega)), (Cells.setFar (kB1) (by omega)), (by simp [upd]), (fun _ => by show Cells _ B8 [.int .i64 256, .int .i64 r.load, .int .i64 r.dump, .int .i64 5000, .int .i64 r.rate, sJ 55, .slice none 0 0]; rw [Hvy.out]; have hz := kN2.set (i := 5) (u := Value.slice ay ((shJobs ns ++ [shJob i (1 + x)])).length cy); simpa using hz), (by simp [upd]; exact ga10), (kLow.setCell (by first | omega | (simp; omega)) _), (by first | omega | (simp; done) | (simp; omega) | (have := hG.size; omega)), (by simp [upd]; exact ga1), (by simpa [upd, updS] using hs1), (by simpa [upd, updS] using hs2), (by simpa [upd, updS] using hs3), (by simpa [upd, updS] using hs7), (by simpa [upd, updS] using hs8), (by simpa [upd, updS] using hs9), (by simpa [upd, updS] using hs10), (by simpa [upd, updS] using hs11), (by simpa [upd, updS] using hv0), (by simpa [upd, updS] using hv1), (by simpa [upd, updS] using hv2), (by simpa [upd, updS] using hv3), (by simpa [upd, updS] using hv4), (by simpa [upd, updS] using hv5), (by simpa [upd, updS] using hv6), (by simpa [upd, updS] using hv7), (by simpa [upd, updS] using hv8), (by simpa [upd, updS] using hv11), (fun h1 => by have h1 := (by simpa [upd] using h1 : LJ 10 = false); simpa [updS] using Own.setFar' (kP0 h1) (by omega) _), (by simpa [updS] using Own.setFar' kP1 (by omega) _), (fun h1 => by have h1 := (by simpa [upd] using h1 : LJ 9 = true); simpa [updS] using Own.setFar' (kW9 h1) (by omega) _), (fun h1 => by have h1 := (by simpa [upd] using h1 : LJ 10 = true); simpa [updS] using Own.setFar' (kW10 h1) (by omega) _), (fun h1 => by have h1 := (by simpa [upd] using h1 : LJ 10 = false); simpa [updS] using kEP0_P1 h1), (fun h1 h2 => by have h1 := (by simpa [upd] using h1 : LJ 10 = false); have h2 := (by simpa [upd] using h2 : LJ 9 = true); simpa [updS] using kEP0_W9 h1 h2), (fun h1 => by have h1 := (by simpa [upd] using h1 : LJ 9 = true); simpa [updS] using kEP1_W9 h1), (fun h1 => by have h1 := (by simpa [upd] using h1 : LJ 10 = true); simpa [updS] using kEP1_W10 h1), (fun h1 h2 => by have h1 := (by simpa [upd] using h1 : LJ 9 = true); have h2 := (by simpa [upd] using h2 : LJ 10 = true); simpa [updS] using kEW9_W10 h1 h2)⟩
      clear sl1 sl2 sl3 sl7 sl8 sl9 sl10 sl11 k3 k7 k8 hOj hOo hap HBr hNr
      rintro s wq' ⟨vj2, sl1, sl2, sl3, sl7, sl8, sl9, sl10, sl11, k3, k7, k8, hOj, hOo, hap, hB, hNr⟩
      have HBr := hid hB
      clear hB
      rw [show shJobs ns ++ [shJob i (1 + x)] = shJobs (ns ++ [1 + x]) by rw [shJobs_snoc, Hns.out.1]] at hOj
      obtain ⟨ao2, co2, rfl, hro, hno⟩ := Own.slice (f := (fun n : Int => [Value.int .i64 n])) (m := 1) (fun _ => rfl) hOo
      have hcap : ot.length ≤ co2 := Own.cap hOo
      have hol8 : ot.length = i := by rw [Hns.out.2.2.length_eq]; exact Hns.out.1
      have Hol := hid hol8
      have hot8 : ot.length ≤ 7 := by omega
      clear hol8
      have hoi : (ot.length : Int) = (i : Int) := by have := Hol.out; omega
      have Hoi := hid hoi
      clear hoi
      repeat (first | ((first | (refine listF_step rfl (fun K' hK => ?_)) | (refine listF_yes rfl rfl (by decide) ?_ (fun K' hK => ?_); (focus (go_simp; done)))); unfold opF; go_simp; (refine hK _ _ ?_); clear hK K') | (refine listF_no (b' := true) rfl rfl (by decide) ?_ ?_ ?_; (focus (go_simp; done)); (focus rfl)) | (refine listF_no (b' := false) rfl rfl (by decide) ?_ ?_ ?_; (focus (go_simp; done)); (focus rfl)) | (refine listF_nu rfl rfl (by decide) ?_ ?_; (focus (go_simp; done))) | (refine listF_nil ?_) | (refine region_F ?_) | (refine cond_F true ?_ ?_; (focus (go_simp; done)); simp only [if_true]) | (refine cond_F false ?_ ?_; (focus (go_simp; done)); simp only [Bool.false_eq_true, if_false]) | (with_reducible go_step))
      (refine wp_abs ?_; intro s' hs'; have gl1 := congrFun hs' 1; simp only [updS_some, updS_none, Nat.reduceEqDiff, ↓reduceIte] at gl1; (try rw [sl1] at gl1); have gl2 := congrFun hs' 2; simp only [updS_some, updS_none, Nat.reduceEqDiff, ↓reduceIte] at gl2; (try rw [sl2] at gl2); have gl3 := congrFun hs' 3; simp only [updS_some, updS_none, Nat.reduceEqDiff, ↓reduceIte] at gl3; (try rw [sl3] at gl3); have gl7 := congrFun hs' 7; simp only [updS_some, updS_none, Nat.reduceEqDiff, ↓reduceIte] at gl7; (try rw [sl7] at gl7); have gl8 := congrFun hs' 8; simp only [updS_some, updS_none, Nat.reduceEqDiff, ↓reduceIte] at gl8; (try rw [sl8] at gl8); have gl9 := congrFun hs' 9; simp only [updS_some, updS_none, Nat.reduceEqDiff, ↓reduceIte] at gl9; (try rw [sl9] at gl9); have gl10 := congrFun hs' 10; simp only [updS_some, updS_none, Nat.reduceEqDiff, ↓reduceIte] at gl10; (try rw [sl10] at gl10); have gl11 := congrFun hs' 11; simp only [updS_some, updS_none, Nat.reduceEqDiff, ↓reduceIte] at gl11; (try rw [sl11] at gl11); have gl12 := congrFun hs' 12; simp only [updS_some, updS_none, Nat.reduceEqDiff, ↓reduceIte] at gl12; (try rw [sl12] at gl12); have gl61 := congrFun hs' 61; simp only [updS_some, updS_none, Nat.reduceEqDiff, ↓reduceIte] at gl61; (try rw [sl61] at gl61); clear hs'; (try clear sl1); (try clear sl2); (try clear sl3); (try clear sl7); (try clear sl8); (try clear sl9); (try clear sl10); (try clear sl11); (try clear sl12); (try clear sl61); have sl1 := gl1; clear gl1; have sl2 := gl2; clear gl2; have sl3 := gl3; clear gl3; have sl7 := gl7; clear gl7; have sl8 := gl8; clear gl8; have sl9 := gl9; clear gl9; have sl10 := gl10; clear gl10; have sl11 := gl11; clear gl11; have sl12 := gl12; clear gl12; have sl61 := gl61; clear gl61)
      refine cut_any (fun s wq => ∃ k : Nat, s 1 = .slice (some ⟨x1, o1, none⟩) nd.length cn ∧ s 2 = .slice ao od.length co ∧ s 3 = .pointer (some ⟨w.heap.size, 0, none⟩) ∧ s 7 = .slice (some ⟨w.heap.size + 1, 0, none⟩) 8 8 ∧ s 8 = .pointer (some ⟨B8, 0, none⟩) ∧ s 9 = .slice ao2 ot.length co2 ∧ s 10 = .int .i64 i ∧ s 11 = .int .i64 (1 + x) ∧ s 12 = .int .i64 k ∧ k ≤ ot.length ∧ wq = wq') ?_ ?_
      · by_cases hop : 0 < od.length
        · have hj : i % od.length < od.length := Nat.mod_lt _ hop
          have how := Rd.at Ho.out HBr.out
          obtain ⟨x2, o2, rfl, hx2, d2⟩ := RdU8.ne how hj
          have hyb := Hob.out od[i % od.length] (List.getElem_mem hj)
          generalize od[i % od.length] = y at *
          have hq : decide (0 < od.length) = true := decide_eq_true hop
          have hz1' : ¬ (od.length : Int) = 0 := by omega
          have hz3 : ¬ od = [] := by intro e; rw [e] at hop; simp at hop
          have hm1 : (i : Int).tmod (od.length : Int) = ((i % od.length : Nat) : Int) := (Int.ofNat_tmod _ _).symm
          have hm2 : IntKind.i64.wrap ((i % od.length : Nat) : Int) = ((i % od.length : Nat) : Int) := IntWalk.i64_in _ (by omega)
          have hm3 : ((i % od.length : Nat) : Int) < (od.length : Int) := by omega
          have hwy : IntKind.i64.wrap y = y := IntWalk.i64_in _ (by omega)
          have hwo : IntKind.i64.wrap ((ot.length : Int) + 1) = (ot.length : Int) + 1 := IntWalk.i64_in _ (by omega)
          have hwz : ¬ (ot.length : Int) + 1 = 0 := by omega
          obtain ⟨k, hk⟩ : ∃ k : Nat, y.tmod ((ot.length : Int) + 1) = (k : Int) := ⟨(y.tmod ((ot.length : Int) + 1)).toNat, (Int.toNat_of_nonneg (Int.tmod_nonneg _ hyb.1)).symm⟩
          have hkl : k ≤ ot.length := by have := Int.tmod_lt_of_pos y (show (0 : Int) < (ot.length : Int) + 1 by omega); omega
          have hwk : IntKind.i64.wrap (k : Int) = (k : Int) := IntWalk.i64_in _ (by omega)
          generalize hjj : i % od.length = jj at *
          have Hjj := hid hjj
          clear hjj
          repeat (first | ((first | (refine listF_step rfl (fun K' hK => ?_)) | (refine listF_yes rfl rfl (by decide) ?_ (fun K' hK => ?_); (focus (go_simp; done)))); unfold opF; go_simp; (refine hK _ _ ?_); clear hK K') | (refine listF_no (b' := true) rfl rfl (by decide) ?_ ?_ ?_; (focus (go_simp; done)); (focus rfl)) | (refine listF_no (b' := false) rfl rfl (by decide) ?_ ?_ ?_; (focus (go_simp; done)); (focus rfl)) | (refine listF_nu rfl rfl (by decide) ?_ ?_; (focus (go_simp; done))) | (refine listF_nil ?_) | (refine region_F ?_) | (refine cond_F true ?_ ?_; (focus (go_simp; done)); simp only [if_true]) | (refine cond_F false ?_ ?_; (focus (go_simp; done)); simp only [Bool.false_eq_true, if_false]) | (with_reducible go_step))
          exact ⟨rfl, _, rfl, k, (by first | (go_simp; done) | exact sl1 | (simp only [updS_some, updS_none, Nat.reduceEqDiff, ↓reduceIte]; exact sl1)), (by first | (go_simp; done) | exact sl2 | (simp only [updS_some, updS_none, Nat.reduceEqDiff, ↓reduceIte]; exact sl2)), (by first | (go_simp; done) | exact sl3 | (simp only [updS_some, updS_none, Nat.reduceEqDiff, ↓reduceIte]; exact sl3)), (by first | (go_simp; done) | exact sl7 | (simp only [updS_some, updS_none, Nat.reduceEqDiff, ↓reduceIte]; exact sl7)), (by first | (go_simp; done) | exact sl8 | (simp only [updS_some, updS_none, Nat.reduceEqDiff, ↓reduceIte]; exact sl8)), (by first | (go_simp; done) | exact sl9 | (simp only [updS_some, updS_none, Nat.reduceEqDiff, ↓reduceIte]; exact sl9)), (by first | (go_simp; done) | exact sl10 | (simp only [updS_some, updS_none, Nat.reduceEqDiff, ↓reduceIte]; exact sl10)), (by first | (go_simp; done) | exact sl11 | (simp only [updS_some, updS_none, Nat.reduceEqDiff, ↓reduceIte]; exact sl11)), by go_simp, hkl, rfl⟩
        · have hq : decide (0 < od.length) = false := decide_eq_false hop
          repeat (first | ((first | (refine listF_step rfl (fun K' hK => ?_)) | (refine listF_yes rfl rfl (by decide) ?_ (fun K' hK => ?_); (focus (go_simp; done)))); unfold opF; go_simp; (refine hK _ _ ?_); clear hK K') | (refine listF_no (b' := true) rfl rfl (by decide) ?_ ?_ ?_; (focus (go_simp; done)); (focus rfl)) | (refine listF_no (b' := false) rfl rfl (by decide) ?_ ?_ ?_; (focus (go_simp; done)); (focus rfl)) | (refine listF_nu rfl rfl (by decide) ?_ ?_; (focus (go_simp; done))) | (refine listF_nil ?_) | (refine region_F ?_) | (refine cond_F true ?_ ?_; (focus (go_simp; done)); simp only [if_true]) | (refine cond_F false ?_ ?_; (focus (go_simp; done)); simp only [Bool.false_eq_true, if_false]) | (with_reducible go_step))
          exact ⟨rfl, _, rfl, ot.length, (by first | (go_simp; done) | exact sl1 | (simp only [updS_some, updS_none, Nat.reduceEqDiff, ↓reduceIte]; exact sl1)), (by first | (go_simp; done) | exact sl2 | (simp only [updS_some, updS_none, Nat.reduceEqDiff, ↓reduceIte]; exact sl2)), (by first | (go_simp; done) | exact sl3 | (simp only [updS_some, updS_none, Nat.reduceEqDiff, ↓reduceIte]; exact sl3)), (by first | (go_simp; done) | exact sl7 | (simp only [updS_some, updS_none, Nat.reduceEqDiff, ↓reduceIte]; exact sl7)), (by first | (go_simp; done) | exact sl8 | (simp only [updS_some, updS_none, Nat.reduceEqDiff, ↓reduceIte]; exact sl8)), (by first | (go_simp; done) | exact sl9 | (simp only [updS_some, updS_none, Nat.reduceEqDiff, ↓reduceIte]; exact sl9)), (by first | (go_simp; done) | exact sl10 | (simp only [updS_some, updS_none, Nat.reduceEqDiff, ↓reduceIte]; exact sl10)), (by first | (go_simp; done) | exact sl11 | (simp only [updS_some, updS_none, Nat.reduceEqDiff, ↓reduceIte]; exact sl11)), (by first | (go_simp; done) | exact sl12 | (simp only [updS_some, updS_none, Nat.reduceEqDiff, ↓reduceIte]; exact sl12)), Nat.le_refl _, rfl⟩
      clear sl1 sl2 sl3 sl7 sl8 sl9 sl10 sl11 sl12 sl61
      rintro s wq2 ⟨k, sl1, sl2, sl3, sl7, sl8, sl9, sl10, sl11, sl12, hkl, rfl⟩
      obtain ⟨ad, cd, hsl, hsd⟩ := slice_from ao2 ot.length co2 k hkl hcap
      have hkc : k ≤ co2 := by omega
      have hsd' := hid hsd
      have hki : (k : Int) ≤ (co2 : Int) := by omega
      clear hsd
      have hsd := hsd'.out
      clear hsd'
      repeat (first | ((first | (refine listF_step rfl (fun K' hK => ?_)) | (refine listF_yes rfl rfl (by decide) ?_ (fun K' hK => ?_); (focus (go_simp; done)))); unfold opF; go_simp; (refine hK _ _ ?_); clear hK K') | (refine listF_no (b' := true) rfl rfl (by decide) ?_ ?_ ?_; (focus (go_simp; done)); (focus rfl)) | (refine listF_no (b' := false) rfl rfl (by decide) ?_ ?_ ?_; (focus (go_simp; done)); (focus rfl)) | (refine listF_nu rfl rfl (by decide) ?_ ?_; (focus (go_simp; done))) | (refine listF_nil ?_) | (refine region_F ?_) | (refine cond_F true ?_ ?_; (focus (go_simp; done)); simp only [if_true]) | (refine cond_F false ?_ ?_; (focus (go_simp; done)); simp only [Bool.false_eq_true, if_false]) | (with_reducible go_step))
      refine cut_F (fun s wq' => ∃ vo2, s 1 = .slice (some ⟨x1, o1, none⟩) nd.length cn ∧ s 2 = .slice ao od.length co ∧ s 3 = .pointer (some ⟨w.heap.size, 0, none⟩) ∧ s 7 = .slice (some ⟨w.heap.size + 1, 0, none⟩) 8 8 ∧ s 8 = .pointer (some ⟨B8, 0, none⟩) ∧ s 9 = vo2 ∧ s 10 = .int .i64 i ∧
        Cells wq' w.heap.size [.int .i64 256, .int .i64 r.load, .int .i64 r.dump, .int .i64 5000, .int .i64 r.rate] ∧ Cells wq' (w.heap.size + 1) [.string (shName 0), .string (shName 1), .string (shName 2), .string (shName 3), .string (shName 4), .string (shName 5), .string (shName 6), .string (shName 7)] ∧ Cells wq' B8 [.int .i64 256, .int .i64 r.load, .int .i64 r.dump, .int .i64 5000, .int .i64 r.rate, vj2, .slice none 0 0] ∧ Own Job.cs 4 56 N0 wq' vj2 (shJobs (ns ++ [1 + x])) ∧ Own (fun n : Int => [Value.int .i64 n]) 1 3 N0 wq' vo2 (ot.take k ++ [1 + x] ++ ot.drop k) ∧ Apart vj2 vo2 ∧ Below w.heap.size w wq' ∧ N0 ≤ wq'.heap.size) ?_ ?_
      · have hnl8 : (shJobs (ns ++ [1 + x])).length ≤ 8 := by rw [shJobs_len]; have := Hns.out.1; simp; omega
        have htk : (ot.take k).length = k := by rw [List.length_take]; omega
        have hdk : (ot.drop k).length = ot.length - k := by rw [List.length_drop]
        refine regionI_F (fun (LJ : Nat → Bool) (sJ : Nat → Value) (wJ : World) => Cells wJ w.heap.size [.int .i64 256, .int .i64 r.load, .int .i64 r.dump, .int .i64 5000, .int .i64 r.rate] ∧ Cells wJ (w.heap.size + 1) [.string (shName 0), .string (shName 1), .string (shName 2), .string (shName 3), .string (shName 4), .string (shName 5), .string (shName 6), .string (shName 7)] ∧ Cells wJ B8 [.int .i64 256, .int .i64 r.load, .int .i64 r.dump, .int .i64 5000, .int .i64 r.rate, vj2, .slice none 0 0] ∧ (LJ 4 = true → LJ 0 = true) ∧ (LJ 7 = true → LJ 4 = true) ∧ (LJ 11 = true → LJ 7 = true) ∧ Below w.heap.size w wJ ∧ N0 ≤ wJ.heap.size ∧ (LJ 12 = true → LJ 1 = true) ∧ (LJ 12 = true → LJ 8 = true) ∧ (LJ 12 = true → LJ 11 = true) ∧ sJ 1 = .slice (some ⟨x1, o1, none⟩) nd.length cn ∧ sJ 2 = .slice ao od.length co ∧ sJ 3 = .pointer (some ⟨w.heap.size, 0, none⟩) ∧ sJ 7 = .slice (some ⟨w.heap.size + 1, 0, none⟩) 8 8 ∧ sJ 8 = .pointer (some ⟨B8, 0, none⟩) ∧ sJ 10 = .int .i64 i ∧ sJ 11 = .int .i64 (1 + x) ∧ sJ 12 = .int .i64 k ∧ (LJ 12 = false → sJ 9 = .slice ao2 ot.length co2) ∧ (LJ 12 = true → sJ 9 = sJ 85) ∧ (LJ 1 = true → sJ 75 = .slice ao2 ot.length co2) ∧ (LJ 2 = true → sJ 76 = .int .i64 k) ∧ (LJ 3 = true → sJ 77 = .slice ao2 k co2) ∧ (LJ 5 = true → sJ 79 = .int .i64 (1 + x)) ∧ (LJ 8 = true → sJ 82 = .slice ao2 ot.length co2) ∧ (LJ 9 = true → sJ 83 = .int .i64 k) ∧ (LJ 10 = true → sJ 84 = .slice ad (ot.length - k) cd) ∧ (Own Job.cs 4 56 N0 wJ vj2 (shJobs (ns ++ [1 + x]))) ∧ (Own (fun n : Int => [Value.int .i64 n]) 1 3 N0 wJ (.slice ao2 ot.length co2) ot) ∧ (LJ 0 = true → LJ 4 = false → Own (fun n : Int => [Value.int .i64 n]) 1 3 N0 wJ (sJ 74) ([] : List Int)) ∧ (LJ 4 = true → LJ 7 = false → Own (fun n : Int => [Value.int .i64 n]) 1 3 N0 wJ (sJ 78) (ot.take k)) ∧ (LJ 6 = true → Own (fun n : Int => [Value.int .i64 n]) 1 3 N0 wJ (sJ 80) [1 + x]) ∧ (LJ 7 = true → LJ 11 = false → Own (fun n : Int => [Value.int .i64 n]) 1 3 N0 wJ (sJ 81) (ot.take k ++ [1 + x])) ∧ (LJ 11 = true → Own (fun n : Int => [Value.int .i64 n]) 1 3 N0 wJ (sJ 85) (ot.take k ++ [1 + x] ++ ot.drop k)) ∧ (Apart vj2 (.slice ao2 ot.length co2)) ∧ (LJ 0 = true → LJ 4 = false → Apart vj2 (sJ 74)) ∧ (LJ 4 = true → LJ 7 = false → Apart vj2 (sJ 78)) ∧ (LJ 6 = true → Apart vj2 (sJ 80)) ∧ (LJ 7 = true → LJ 11 = false → Apart vj2 (sJ 81)) ∧ (LJ 11 = true → Apart vj2 (sJ 85)) ∧ (LJ 0 = true → LJ 4 = false → Apart (.slice ao2 ot.length co2) (sJ 74)) ∧ (LJ 4 = true → LJ 7 = false → Apart (.slice ao2 ot.length co2) (sJ 78)) ∧ (LJ 6 = true → Apart (.slice ao2 ot.length co2) (sJ 80)) ∧ (LJ 7 = true → LJ 11 = false → Apart (.slice ao2 ot.length co2) (sJ 81)) ∧ (LJ 11 = true → Apart (.slice ao2 ot.length co2) (sJ 85)) ∧ (LJ 0 = true → LJ 4 = false → LJ 6 = true → Apart (sJ 74) (sJ 80)) ∧ (LJ 4 = true → LJ 7 = false → LJ 6 = true → Apart (sJ 78) (sJ 80)) ∧ (LJ 6 = true → LJ 7 = true → LJ 11 = false → Apart (sJ 80) (sJ 81)) ∧ (LJ 6 = true → LJ 11 = true → Apart (sJ 80) (sJ 85))) (by kernel_rfl) (by kernel_rfl) (by kernel_rfl) ?_ ?_ ⟨?_, ?_, ?_, ?_, ?_, ?_, ?_, ?_, ?_, ?_, ?_, ?_, ?_, trivial⟩
        · refine ⟨(by repeat (first | (with_reducible exact k3) | (with_reducible refine Cells.drew ?_) | (with_reducible refine Cells.up ?_ _) | (with_reducible refine Cells.setFar ?_ (by omega)))), (by repeat (first | (with_reducible exact k7) | (with_reducible refine Cells.drew ?_) | (with_reducible refine Cells.up ?_ _) | (with_reducible refine Cells.setFar ?_ (by omega)))), (by repeat (first | (with_reducible exact k8) | (with_reducible refine Cells.drew ?_) | (with_reducible refine Cells.up ?_ _) | (with_reducible refine Cells.setFar ?_ (by omega)))), (by simp), (by simp), (by simp), (by repeat (first | (with_reducible exact HBr.out) | (with_reducible refine bdrewN ?_ _) | (with_reducible refine Below.drew ?_) | (with_reducible refine Below.setCell ?_ (by first | omega | (simp; done) | (simp; omega)) _) | (with_reducible refine Below.alloc ?_ (by first | omega | (simp; done) | (simp; omega)) _))), (by first | omega | (simp; done) | (simp; omega)), (by simp), (by simp), (by simp), ?_, ?_, ?_, ?_, ?_, ?_, ?_, ?_, fun _ => ?_, (by simp), (by simp), (by simp), (by simp), (by simp), (by simp), (by simp), (by simp), (hOj), (hOo), (by simp), (by simp), (by simp), (by simp), (by simp), (hap.symm), (by simp), (by simp), (by simp), (by simp), (by simp), (by simp), (by simp), (by simp), (by simp), (by simp), (by simp), (by simp), (by simp), (by simp)⟩
          · go_simp
          · go_simp
          · go_simp
          · go_simp
          · go_simp
          · go_simp
          · go_simp
          · go_simp
          · go_simp
        · rintro sJ wJ ⟨kB0, kB1, kB2, kQ4, kQ7, kQ11, kLow, kSz, kZ12_1, kZ12_8, kZ12_11, hs1, hs2, hs3, hs7, hs8, hs10, hs11, hs12, ht9, hu9, hv1, hv2, hv3, hv5, hv8, hv9, hv10, kP0, kP1, kW0, kW4, kW6, kW7, kW11, kEP0_P1, kEP0_W0, kEP0_W4, kEP0_W6, kEP0_W7, kEP0_W11, kEP1_W0, kEP1_W4, kEP1_W6, kEP1_W7, kEP1_W11, kEW0_W6, kEW4_W6, kEW6_W7, kEW6_W11⟩
          clear kQ4
          clear kQ7
          clear kQ11
          clear kZ12_1
          clear kZ12_8
          clear kZ12_11
          replace ht9 := hu9 (by simp)
          clear hu9
          replace hv1 := hv1 (by simp)
          replace hv2 := hv2 (by simp)
          replace hv3 := hv3 (by simp)
          replace hv5 := hv5 (by simp)
          replace hv8 := hv8 (by simp)
          replace hv9 := hv9 (by simp)
          replace hv10 := hv10 (by simp)
          skip
          skip
          clear kW0
          clear kW4
          replace kW6 := kW6 (by simp)
          clear kW7
          replace kW11 := kW11 (by simp)
          skip
          clear kEP0_W0
          clear kEP0_W4
          replace kEP0_W6 := kEP0_W6 (by simp)
          clear kEP0_W7
          replace kEP0_W11 := kEP0_W11 (by simp)
          clear kEP1_W0
          clear kEP1_W4
          replace kEP1_W6 := kEP1_W6 (by simp)
          clear kEP1_W7
          replace kEP1_W11 := kEP1_W11 (by simp)
          clear kEW0_W6
          clear kEW4_W6
          clear kEW6_W7
          replace kEW6_W11 := kEW6_W11 (by simp) (by simp)
          exact ⟨rfl, _, rfl, sJ 85, by go_simp, by go_simp, by go_simp, by go_simp, by go_simp, by go_simp, by go_simp, kB0, kB1, kB2, kP0, kW11, kEP0_W11, kLow, kSz⟩
        · rintro LJ sJ wJ hL hd ⟨kB0, kB1, kB2, kQ4, kQ7, kQ11, kLow, kSz, kZ12_1, kZ12_8, kZ12_11, hs1, hs2, hs3, hs7, hs8, hs10, hs11, hs12, ht9, hu9, hv1, hv2, hv3, hv5, hv8, hv9, hv10, kP0, kP1, kW0, kW4, kW6, kW7, kW11, kEP0_P1, kEP0_W0, kEP0_W4, kEP0_W6, kEP0_W7, kEP0_W11, kEP1_W0, kEP1_W4, kEP1_W6, kEP1_W7, kEP1_W11, kEW0_W6, kEW4_W6, kEW6_W7, kEW6_W11⟩ K hK
          clear hd
          rw [if_pos (by rfl)]
          unfold opF
          go_simp
          exact hK _ _ ⟨(Cells.up (kB0) _), (Cells.up (kB1) _), (Cells.up (kB2) _), (by simp [upd]), (by simpa [upd] using kQ7), (by simpa [upd] using kQ11), (kLow.alloc (by omega) _), (by first | omega | (simp; done) | (simp; omega) | (have := hG.size; omega)), (by simpa [upd] using kZ12_1), (by simpa [upd] using kZ12_8), (by simpa [upd] using kZ12_11), (by simpa [upd, updS] using hs1), (by simpa [upd, updS] using hs2), (by simpa [upd, updS] using hs3), (by simpa [upd, updS] using hs7), (by simpa [upd, updS] using hs8), (by simpa [upd, updS] using hs10), (by simpa [upd, updS] using hs11), (by simpa [upd, updS] using hs12), (by simpa [upd, updS] using ht9), (by simpa [upd, updS] using hu9), (by simpa [upd, updS] using hv1), (by simpa [upd, updS] using hv2), (by simpa [upd, updS] using hv3), (by simpa [upd, updS] using hv5), (by simpa [upd, updS] using hv8), (by simpa [upd, updS] using hv9), (by simpa [upd, updS] using hv10), (by simpa [updS] using Own.alloc kP0 _), (by simpa [updS] using Own.alloc kP1 _), (fun _ _ => by first | exact Own.lit (by omega) (by unfold maxLen; simp) (by rfl) (fun _ => rfl) | (simp only [updS_some, ↓reduceIte]; exact Own.lit (by omega) (by unfold maxLen; simp) (by rfl) (fun _ => rfl)) | (simpa [updS] using Own.lit (by omega) (by unfold maxLen; simp) (by rfl) (fun _ => rfl))), (fun h1 h2 => by have h1 := (by simpa [upd] using h1 : LJ 4 = true); have h2 := (by simpa [upd] using h2 : LJ 7 = false); simpa [updS] using Own.alloc (kW4 h1 h2) _), (fun h1 => by have h1 := (by simpa [upd] using h1 : LJ 6 = true); simpa [updS] using Own.alloc (kW6 h1) _), (fun h1 h2 => by have h1 := (by simpa [upd] using h1 : LJ 7 = true); have h2 := (by simpa [upd] using h2 : LJ 11 = false); simpa [updS] using Own.alloc (kW7 h1 h2) _), (fun h1 => by have h1 := (by simpa [upd] using h1 : LJ 11 = true); simpa [updS] using Own.alloc (kW11 h1) _), (by simpa [updS] using kEP0_P1 ), (fun h1 h2 => by have h2 := (by simpa [upd] using h2 : LJ 4 = false); simpa [updS] using Apart.new kP0 _ _), (fun h1 h2 => by have h1 := (by simpa [upd] using h1 : LJ 4 = true); have h2 := (by simpa [upd] using h2 : LJ 7 = false); simpa [updS] using kEP0_W4 h1 h2), (fun h1 => by have h1 := (by simpa [upd] using h1 : LJ 6 = true); simpa [updS] using kEP0_W6 h1), (fun h1 h2 => by have h1 := (by simpa [upd] using h1 : LJ 7 = true); have h2 := (by simpa [upd] using h2 : LJ 11 = false); simpa [updS] using kEP0_W7 h1 h2), (fun h1 => by have h1 := (by simpa [upd] using h1 : LJ 11 = true); simpa [updS] using kEP0_W11 h1), (fun h1 h2 => by have h2 := (by simpa [upd] using h2 : LJ 4 = false); simpa [updS] using Apart.new kP1 _ _), (fun h1 h2 => by have h1 := (by simpa [upd] using h1 : LJ 4 = true); have h2 := (by simpa [upd] using h2 : LJ 7 = false); simpa [updS] using kEP1_W4 h1 h2), (fun h1 => by have h1 := (by simpa [upd] using h1 : LJ 6 = true); simpa [updS] using kEP1_W6 h1), (fun h1 h2 => by have h1 := (by simpa [upd] using h1 : LJ 7 = true); have h2 := (by simpa [upd] using h2 : LJ 11 = false); simpa [updS] using kEP1_W7 h1 h2), (fun h1 => by have h1 := (by simpa [upd] using h1 : LJ 11 = true); simpa [updS] using kEP1_W11 h1), (fun h1 h2 h3 => by have h2 := (by simpa [upd] using h2 : LJ 4 = false); have h3 := (by simpa [upd] using h3 : LJ 6 = true); simpa [updS] using (Apart.new (kW6 h3) _ _).symm), (fun h1 h2 h3 => by have h1 := (by simpa [upd] using h1 : LJ 4 = true); have h2 := (by simpa [upd] using h2 : LJ 7 = false); have h3 := (by simpa [upd] using h3 : LJ 6 = true); simpa [updS] using kEW4_W6 h1 h2 h3), (fun h1 h2 h3 => by have h1 := (by simpa [upd] using h1 : LJ 6 = true); have h2 := (by simpa [upd] using h2 : LJ 7 = true); have h3 := (by simpa [upd] using h3 : LJ 11 = false); simpa [updS] using kEW6_W7 h1 h2 h3), (fun h1 h2 => by have h1 := (by simpa [upd] using h1 : LJ 6 = true); have h2 := (by simpa [upd] using h2 : LJ 11 = true); simpa [updS] using kEW6_W11 h1 h2)⟩
        · rintro LJ sJ wJ hL hd ⟨kB0, kB1, kB2, kQ4, kQ7, kQ11, kLow, kSz, kZ12_1, kZ12_8, kZ12_11, hs1, hs2, hs3, hs7, hs8, hs10, hs11, hs12, ht9, hu9, hv1, hv2, hv3, hv5, hv8, hv9, hv10, kP0, kP1, kW0, kW4, kW6, kW7, kW11, kEP0_P1, kEP0_W0, kEP0_W4, kEP0_W6, kEP0_W7, kEP0_W11, kEP1_W0, kEP1_W4, kEP1_W6, kEP1_W7, kEP1_W11, kEW0_W6, kEW4_W6, kEW6_W7, kEW6_W11⟩ K hK
          clear hd
          rw [if_pos (by rfl)]
          unfold opF
          have gt9 := ht9 (by cases hh : LJ 12 with | false => rfl | true => exact absurd (kZ12_1 hh) (by rw [hL]; decide))
          go_simp
          refine hK _ _ ⟨?_, ?_, ?_, ?_, ?_, ?_, ?_, ?_, ?_, ?_, ?_, ?_, ?_, ?_, ?_, ?_, ?_, ?_, ?_, ?_, ?_, ?_, ?_, ?_, ?_, ?_, ?_, ?_, ?_, ?_, ?_, ?_, ?_, ?_, ?_, ?_, ?_, ?_, ?_, ?_, ?_, ?_, ?_, ?_, ?_, ?_, ?_, ?_, ?_, ?_⟩ <;> first | assumption | (simp [upd, updS]; done) | (simp [upd, updS]; assumption)
        · rintro LJ sJ wJ hL hd ⟨kB0, kB1, kB2, kQ4, kQ7, kQ11, kLow, kSz, kZ12_1, kZ12_8, kZ12_11, hs1, hs2, hs3, hs7, hs8, hs10, hs11, hs12, ht9, hu9, hv1, hv2, hv3, hv5, hv8, hv9, hv10, kP0, kP1, kW0, kW4, kW6, kW7, kW11, kEP0_P1, kEP0_W0, kEP0_W4, kEP0_W6, kEP0_W7, kEP0_W11, kEP1_W0, kEP1_W4, kEP1_W6, kEP1_W7, kEP1_W11, kEW0_W6, kEW4_W6, kEW6_W7, kEW6_W11⟩ K hK
          clear hd
          rw [if_pos (by rfl)]
          unfold opF
          go_simp
          refine hK _ _ ⟨?_, ?_, ?_, ?_, ?_, ?_, ?_, ?_, ?_, ?_, ?_, ?_, ?_, ?_, ?_, ?_, ?_, ?_, ?_, ?_, ?_, ?_, ?_, ?_, ?_, ?_, ?_, ?_, ?_, ?_, ?_, ?_, ?_, ?_, ?_, ?_, ?_, ?_, ?_, ?_, ?_, ?_, ?_, ?_, ?_, ?_, ?_, ?_, ?_, ?_⟩ <;> first | assumption | (simp [upd, updS]; done) | (simp [upd, updS]; assumption)
        · rintro LJ sJ wJ hL hd ⟨kB0, kB1, kB2, kQ4, kQ7, kQ11, kLow, kSz, kZ12_1, kZ12_8, kZ12_11, hs1, hs2, hs3, hs7, hs8, hs10, hs11, hs12, ht9, hu9, hv1, hv2, hv3, hv5, hv8, hv9, hv10, kP0, kP1, kW0, kW4, kW6, kW7, kW11, kEP0_P1, kEP0_W0, kEP0_W4, kEP0_W6, kEP0_W7, kEP0_W11, kEP1_W0, kEP1_W4, kEP1_W6, kEP1_W7, kEP1_W11, kEW0_W6, kEW4_W6, kEW6_W7, kEW6_W11⟩ K hK
          have ga1 := hd ⟨1, .data⟩ (by simp) rfl
          have gv1 := hv1 ga1
          have ga2 := hd ⟨2, .data⟩ (by simp) rfl
          have gv2 := hv2 ga2
          clear hd
          rw [if_pos (by rfl)]
          unfold opF
          go_simp
          refine hK _ _ ⟨?_, ?_, ?_, ?_, ?_, ?_, ?_, ?_, ?_, ?_, ?_, ?_, ?_, ?_, ?_, ?_, ?_, ?_, ?_, ?_, ?_, ?_, ?_, ?_, ?_, ?_, ?_, ?_, ?_, ?_, ?_, ?_, ?_, ?_, ?_, ?_, ?_, ?_, ?_, ?_, ?_, ?_, ?_, ?_, ?_, ?_, ?_, ?_, ?_, ?_⟩ <;> first | assumption | (simp [upd, updS]; done) | (simp [upd, updS]; assumption)
        · rintro LJ sJ wJ hL hd ⟨kB0, kB1, kB2, kQ4, kQ7, kQ11, kLow, kSz, kZ12_1, kZ12_8, kZ12_11, hs1, hs2, hs3, hs7, hs8, hs10, hs11, hs12, ht9, hu9, hv1, hv2, hv3, hv5, hv8, hv9, hv10, kP0, kP1, kW0, kW4, kW6, kW7, kW11, kEP0_P1, kEP0_W0, kEP0_W4, kEP0_W6, kEP0_W7, kEP0_W11, kEP1_W0, kEP1_W4, kEP1_W6, kEP1_W7, kEP1_W11, kEW0_W6, kEW4_W6, kEW6_W7, kEW6_W11⟩ K hK
          have ga0 := hd ⟨0, .data⟩ (by simp) rfl
          have ga3 := hd ⟨3, .data⟩ (by simp) rfl
          have gv3 := hv3 ga3
          clear hd
          rw [if_pos (by rfl)]
          have hcj : LJ 4 = false := hL
          have kWx := kW0 ga0 hcj
          refine opF_app (d := 78) rfl (by decide) (.tmp 74) (.tmp 77) _ rfl 3 i0 _ 8 Try.underlying48 hi0 hz0 hz1 hz2 rfl (by decide) (fun _ => rfl) int_one N0 (sJ 74) ([] : List Int) (ot.take k) ao2 co2 (by go_simp) (by go_simp) kWx (Rd.takeK (Own.rd' (f := (fun n : Int => [Value.int .i64 n])) (m := 1) (fun _ => rfl) kP1 rfl) k) (by simp; unfold maxLen; omega) (by simp; omega) (by omega) (fun v' w' hO hG hV => ?_)
          exact hK _ _ ⟨(Cells.grown (kB0) hG (Own.far kWx (by omega))), (Cells.grown (kB1) hG (Own.far kWx (by omega))), (Cells.grown (kB2) hG (Own.far kWx (by omega))), (by simp [upd]; exact ga0), (by simp [upd]), (by simpa [upd] using kQ11), (low_grown kLow hG (by omega) (fun k hk => by have := (World.ownsRow.lt kWx k hk).1; omega)), (by first | omega | (simp; done) | (simp; omega) | (have := hG.size; omega)), (by simpa [upd] using kZ12_1), (by simpa [upd] using kZ12_8), (by simpa [upd] using kZ12_11), (by simpa [upd, updS] using hs1), (by simpa [upd, updS] using hs2), (by simpa [upd, updS] using hs3), (by simpa [upd, updS] using hs7), (by simpa [upd, updS] using hs8), (by simpa [upd, updS] using hs10), (by simpa [upd, updS] using hs11), (by simpa [upd, updS] using hs12), (by simpa [upd, updS] using ht9), (by simpa [upd, updS] using hu9), (by simpa [upd, updS] using hv1), (by simpa [upd, updS] using hv2), (by simpa [upd, updS] using hv3), (by simpa [upd, updS] using hv5), (by simpa [upd, updS] using hv8), (by simpa [upd, updS] using hv9), (by simpa [upd, updS] using hv10), (by simpa [updS] using Own.grown kP0 hG (kEP0_W0 ga0 hcj)), (by simpa [updS] using Own.grown kP1 hG (kEP1_W0 ga0 hcj)), (fun h1 h2 => by simp [upd] at h2), (fun _ _ => by first | exact hO | (simp only [updS_some, ↓reduceIte]; exact hO) | (simpa [updS] using hO)), (fun h1 => by have h1 := (by simpa [upd] using h1 : LJ 6 = true); simpa [updS] using Own.grown (kW6 h1) hG (kEW0_W6 ga0 hcj h1).symm), (fun h1 h2 => by have h1 := (by simpa [upd] using h1 : LJ 7 = true); have h2 := (by simpa [upd] using h2 : LJ 11 = false); exact absurd (kQ7 h1) (by rw [hL]; decide)), (fun h1 => by have h1 := (by simpa [upd] using h1 : LJ 11 = true); exact absurd (kQ7 (kQ11 h1)) (by rw [hL]; decide)), (by simpa [updS] using kEP0_P1 ), (fun h1 h2 => by simp [upd] at h2), (fun h1 h2 => by have h2 := (by simpa [upd] using h2 : LJ 7 = false); simpa [updS] using Apart.app kP0 (kEP0_W0 ga0 hcj) hV), (fun h1 => by have h1 := (by simpa [upd] using h1 : LJ 6 = true); simpa [updS] using kEP0_W6 h1), (fun h1 h2 => by have h1 := (by simpa [upd] using h1 : LJ 7 = true); have h2 := (by simpa [upd] using h2 : LJ 11 = false); simpa [updS] using kEP0_W7 h1 h2), (fun h1 => by have h1 := (by simpa [upd] using h1 : LJ 11 = true); simpa [updS] using kEP0_W11 h1), (fun h1 h2 => by simp [upd] at h2), (fun h1 h2 => by have h2 := (by simpa [upd] using h2 : LJ 7 = false); simpa [updS] using Apart.app kP1 (kEP1_W0 ga0 hcj) hV), (fun h1 => by have h1 := (by simpa [upd] using h1 : LJ 6 = true); simpa [updS] using kEP1_W6 h1), (fun h1 h2 => by have h1 := (by simpa [upd] using h1 : LJ 7 = true); have h2 := (by simpa [upd] using h2 : LJ 11 = false); simpa [updS] using kEP1_W7 h1 h2), (fun h1 => by have h1 := (by simpa [upd] using h1 : LJ 11 = true); simpa [updS] using kEP1_W11 h1), (fun h1 h2 h3 => by simp [upd] at h2), (fun h1 h2 h3 => by have h2 := (by simpa [upd] using h2 : LJ 7 = false); have h3 := (by simpa [upd] using h3 : LJ 6 = true); simpa [updS] using (Apart.app (kW6 h3) (kEW0_W6 ga0 hcj h3).symm hV).symm), (fun h1 h2 h3 => by have h1 := (by simpa [upd] using h1 : LJ 6 = true); have h2 := (by simpa [upd] using h2 : LJ 7 = true); have h3 := (by simpa [upd] using h3 : LJ 11 = false); simpa [updS] using kEW6_W7 h1 h2 h3), (fun h1 h2 => by have h1 := (by simpa [upd] using h1 : LJ 6 = true); have h2 := (by simpa [upd] using h2 : LJ 11 = true); simpa [updS] using kEW6_W11 h1 h2)⟩
        · rintro LJ sJ wJ hL hd ⟨kB0, kB1, kB2, kQ4, kQ7, kQ11, kLow, kSz, kZ12_1, kZ12_8, kZ12_11, hs1, hs2, hs3, hs7, hs8, hs10, hs11, hs12, ht9, hu9, hv1, hv2, hv3, hv5, hv8, hv9, hv10, kP0, kP1, kW0, kW4, kW6, kW7, kW11, kEP0_P1, kEP0_W0, kEP0_W4, kEP0_W6, kEP0_W7, kEP0_W11, kEP1_W0, kEP1_W4, kEP1_W6, kEP1_W7, kEP1_W11, kEW0_W6, kEW4_W6, kEW6_W7, kEW6_W11⟩ K hK
          clear hd
          rw [if_pos (by rfl)]
          unfold opF
          go_simp
          refine hK _ _ ⟨?_, ?_, ?_, ?_, ?_, ?_, ?_, ?_, ?_, ?_, ?_, ?_, ?_, ?_, ?_, ?_, ?_, ?_, ?_, ?_, ?_, ?_, ?_, ?_, ?_, ?_, ?_, ?_, ?_, ?_, ?_, ?_, ?_, ?_, ?_, ?_, ?_, ?_, ?_, ?_, ?_, ?_, ?_, ?_, ?_, ?_, ?_, ?_, ?_, ?_⟩ <;> first | assumption | (simp [upd, updS]; done) | (simp [upd, updS]; assumption)
        · rintro LJ sJ wJ hL hd ⟨kB0, kB1, kB2, kQ4, kQ7, kQ11, kLow, kSz, kZ12_1, kZ12_8, kZ12_11, hs1, hs2, hs3, hs7, hs8, hs10, hs11, hs12, ht9, hu9, hv1, hv2, hv3, hv5, hv8, hv9, hv10, kP0, kP1, kW0, kW4, kW6, kW7, kW11, kEP0_P1, kEP0_W0, kEP0_W4, kEP0_W6, kEP0_W7, kEP0_W11, kEP1_W0, kEP1_W4, kEP1_W6, kEP1_W7, kEP1_W11, kEW0_W6, kEW4_W6, kEW6_W7, kEW6_W11⟩ K hK
          have ga5 := hd ⟨5, .data⟩ (by simp) rfl
          have gv5 := hv5 ga5
          clear hd
          rw [if_pos (by rfl)]
          unfold opF
          go_simp
          exact hK _ _ ⟨(Cells.up (kB0) _), (Cells.up (kB1) _), (Cells.up (kB2) _), (by simpa [upd] using kQ4), (by simpa [upd] using kQ7), (by simpa [upd] using kQ11), (kLow.alloc (by omega) _), (by first | omega | (simp; done) | (simp; omega) | (have := hG.size; omega)), (by simpa [upd] using kZ12_1), (by simpa [upd] using kZ12_8), (by simpa [upd] using kZ12_11), (by simpa [upd, updS] using hs1), (by simpa [upd, updS] using hs2), (by simpa [upd, updS] using hs3), (by simpa [upd, updS] using hs7), (by simpa [upd, updS] using hs8), (by simpa [upd, updS] using hs10), (by simpa [upd, updS] using hs11), (by simpa [upd, updS] using hs12), (by simpa [upd, updS] using ht9), (by simpa [upd, updS] using hu9), (by simpa [upd, updS] using hv1), (by simpa [upd, updS] using hv2), (by simpa [upd, updS] using hv3), (by simpa [upd, updS] using hv5), (by simpa [upd, updS] using hv8), (by simpa [upd, updS] using hv9), (by simpa [upd, updS] using hv10), (by simpa [updS] using Own.alloc kP0 _), (by simpa [updS] using Own.alloc kP1 _), (fun h1 h2 => by have h1 := (by simpa [upd] using h1 : LJ 0 = true); have h2 := (by simpa [upd] using h2 : LJ 4 = false); simpa [updS] using Own.alloc (kW0 h1 h2) _), (fun h1 h2 => by have h1 := (by simpa [upd] using h1 : LJ 4 = true); have h2 := (by simpa [upd] using h2 : LJ 7 = false); simpa [updS] using Own.alloc (kW4 h1 h2) _), (fun _ => by first | exact Own.lit (by omega) (by unfold maxLen; simp) (by rfl) (fun _ => rfl) | (simp only [updS_some, ↓reduceIte]; exact Own.lit (by omega) (by unfold maxLen; simp) (by rfl) (fun _ => rfl)) | (simpa [updS] using Own.lit (by omega) (by unfold maxLen; simp) (by rfl) (fun _ => rfl))), (fun h1 h2 => by have h1 := (by simpa [upd] using h1 : LJ 7 = true); have h2 := (by simpa [upd] using h2 : LJ 11 = false); simpa [updS] using Own.alloc (kW7 h1 h2) _), (fun h1 => by have h1 := (by simpa [upd] using h1 : LJ 11 = true); simpa [updS] using Own.alloc (kW11 h1) _), (by simpa [updS] using kEP0_P1 ), (fun h1 h2 => by have h1 := (by simpa [upd] using h1 : LJ 0 = true); have h2 := (by simpa [upd] using h2 : LJ 4 = false); simpa [updS] using kEP0_W0 h1 h2), (fun h1 h2 => by have h1 := (by simpa [upd] using h1 : LJ 4 = true); have h2 := (by simpa [upd] using h2 : LJ 7 = false); simpa [updS] using kEP0_W4 h1 h2), (fun h1 => by simpa [updS] using Apart.new kP0 _ _), (fun h1 h2 => by have h1 := (by simpa [upd] using h1 : LJ 7 = true); have h2 := (by simpa [upd] using h2 : LJ 11 = false); simpa [updS] using kEP0_W7 h1 h2), (fun h1 => by have h1 := (by simpa [upd] using h1 : LJ 11 = true); simpa [updS] using kEP0_W11 h1), (fun h1 h2 => by have h1 := (by simpa [upd] using h1 : LJ 0 = true); have h2 := (by simpa [upd] using h2 : LJ 4 = false); simpa [updS] using kEP1_W0 h1 h2), (fun h1 h2 => by have h1 := (by simpa [upd] using h1 : LJ 4 = true); have h2 := (by simpa [upd] using h2 : LJ 7 = false); simpa [updS] using kEP1_W4 h1 h2), (fun h1 => by simpa [updS] using Apart.new kP1 _ _), (fun h1 h2 => by have h1 := (by simpa [upd] using h1 : LJ 7 = true); have h2 := (by simpa [upd] using h2 : LJ 11 = false); simpa [updS] using kEP1_W7 h1 h2), (fun h1 => by have h1 := (by simpa [upd] using h1 : LJ 11 = true); simpa [updS] using kEP1_W11 h1), (fun h1 h2 h3 => by have h1 := (by simpa [upd] using h1 : LJ 0 = true); have h2 := (by simpa [upd] using h2 : LJ 4 = false); simpa [updS] using Apart.new (kW0 h1 h2) _ _), (fun h1 h2 h3 => by have h1 := (by simpa [upd] using h1 : LJ 4 = true); have h2 := (by simpa [upd] using h2 : LJ 7 = false); simpa [updS] using Apart.new (kW4 h1 h2) _ _), (fun h1 h2 h3 => by have h2 := (by simpa [upd] using h2 : LJ 7 = true); have h3 := (by simpa [upd] using h3 : LJ 11 = false); simpa [updS] using (Apart.new (kW7 h2 h3) _ _).symm), (fun h1 h2 => by have h2 := (by simpa [upd] using h2 : LJ 11 = true); simpa [updS] using (Apart.new (kW11 h2) _ _).symm)⟩
        · rintro LJ sJ wJ hL hd ⟨kB0, kB1, kB2, kQ4, kQ7, kQ11, kLow, kSz, kZ12_1, kZ12_8, kZ12_11, hs1, hs2, hs3, hs7, hs8, hs10, hs11, hs12, ht9, hu9, hv1, hv2, hv3, hv5, hv8, hv9, hv10, kP0, kP1, kW0, kW4, kW6, kW7, kW11, kEP0_P1, kEP0_W0, kEP0_W4, kEP0_W6, kEP0_W7, kEP0_W11, kEP1_W0, kEP1_W4, kEP1_W6, kEP1_W7, kEP1_W11, kEW0_W6, kEW4_W6, kEW6_W7, kEW6_W11⟩ K hK
          have ga4 := hd ⟨4, .data⟩ (by simp) rfl
          have ga6 := hd ⟨6, .data⟩ (by simp) rfl
          have ga4 := hd ⟨4, .chain⟩ (by simp) rfl
          clear hd
          rw [if_pos (by rfl)]
          have hcj : LJ 7 = false := hL
          have kWx := kW4 ga4 hcj
          have kWy := kW6 ga6
          obtain ⟨ay, cy, hvy, hry, hny⟩ := Own.slice (f := (fun n : Int => [Value.int .i64 n])) (m := 1) (fun _ => rfl) kWy
          refine opF_app (d := 81) rfl (by decide) (.tmp 78) (.tmp 80) _ rfl 3 i0 _ 8 Try.underlying48 hi0 hz0 hz1 hz2 rfl (by decide) (fun _ => rfl) int_one N0 (sJ 78) (ot.take k) [1 + x] ay cy (by go_simp) (by simpa using hvy) kWx hry (by simp; unfold maxLen; omega) (by simp; omega) (by omega) (fun v' w' hO hG hV => ?_)
          exact hK _ _ ⟨(Cells.grown (kB0) hG (Own.far kWx (by omega))), (Cells.grown (kB1) hG (Own.far kWx (by omega))), (Cells.grown (kB2) hG (Own.far kWx (by omega))), (by simpa [upd] using kQ4), (by simp [upd]; exact ga4), (by simp [upd]), (low_grown kLow hG (by omega) (fun k hk => by have := (World.ownsRow.lt kWx k hk).1; omega)), (by first | omega | (simp; done) | (simp; omega) | (have := hG.size; omega)), (by simpa [upd] using kZ12_1), (by simpa [upd] using kZ12_8), (by simpa [upd] using kZ12_11), (by simpa [upd, updS] using hs1), (by simpa [upd, updS] using hs2), (by simpa [upd, updS] using hs3), (by simpa [upd, updS] using hs7), (by simpa [upd, updS] using hs8), (by simpa [upd, updS] using hs10), (by simpa [upd, updS] using hs11), (by simpa [upd, updS] using hs12), (by simpa [upd, updS] using ht9), (by simpa [upd, updS] using hu9), (by simpa [upd, updS] using hv1), (by simpa [upd, updS] using hv2), (by simpa [upd, updS] using hv3), (by simpa [upd, updS] using hv5), (by simpa [upd, updS] using hv8), (by simpa [upd, updS] using hv9), (by simpa [upd, updS] using hv10), (by simpa [updS] using Own.grown kP0 hG (kEP0_W4 ga4 hcj)), (by simpa [updS] using Own.grown kP1 hG (kEP1_W4 ga4 hcj)), (fun h1 h2 => by have h1 := (by simpa [upd] using h1 : LJ 0 = true); have h2 := (by simpa [upd] using h2 : LJ 4 = false); exact absurd ga4 (by rw [h2]; decide)), (fun h1 h2 => by simp [upd] at h2), (fun h1 => by have h1 := (by simpa [upd] using h1 : LJ 6 = true); simpa [updS] using Own.grown (kW6 h1) hG (kEW4_W6 ga4 hcj h1).symm), (fun _ _ => by first | exact hO | (simp only [updS_some, ↓reduceIte]; exact hO) | (simpa [updS] using hO)), (fun h1 => by have h1 := (by simpa [upd] using h1 : LJ 11 = true); exact absurd (kQ11 h1) (by rw [hL]; decide)), (by simpa [updS] using kEP0_P1 ), (fun h1 h2 => by have h1 := (by simpa [upd] using h1 : LJ 0 = true); have h2 := (by simpa [upd] using h2 : LJ 4 = false); simpa [updS] using kEP0_W0 h1 h2), (fun h1 h2 => by simp [upd] at h2), (fun h1 => by have h1 := (by simpa [upd] using h1 : LJ 6 = true); simpa [updS] using kEP0_W6 h1), (fun h1 h2 => by have h2 := (by simpa [upd] using h2 : LJ 11 = false); simpa [updS] using Apart.app kP0 (kEP0_W4 ga4 hcj) hV), (fun h1 => by have h1 := (by simpa [upd] using h1 : LJ 11 = true); simpa [updS] using kEP0_W11 h1), (fun h1 h2 => by have h1 := (by simpa [upd] using h1 : LJ 0 = true); have h2 := (by simpa [upd] using h2 : LJ 4 = false); simpa [updS] using kEP1_W0 h1 h2), (fun h1 h2 => by simp [upd] at h2), (fun h1 => by have h1 := (by simpa [upd] using h1 : LJ 6 = true); simpa [updS] using kEP1_W6 h1), (fun h1 h2 => by have h2 := (by simpa [upd] using h2 : LJ 11 = false); simpa [updS] using Apart.app kP1 (kEP1_W4 ga4 hcj) hV), (fun h1 => by have h1 := (by simpa [upd] using h1 : LJ 11 = true); simpa [updS] using kEP1_W11 h1), (fun h1 h2 h3 => by have h1 := (by simpa [upd] using h1 : LJ 0 = true); have h2 := (by simpa [upd] using h2 : LJ 4 = false); have h3 := (by simpa [upd] using h3 : LJ 6 = true); simpa [updS] using kEW0_W6 h1 h2 h3), (fun h1 h2 h3 => by simp [upd] at h2), (fun h1 h2 h3 => by have h1 := (by simpa [upd] using h1 : LJ 6 = true); have h3 := (by simpa [upd] using h3 : LJ 11 = false); simpa [updS] using Apart.app (kW6 h1) (kEW4_W6 ga4 hcj h1).symm hV), (fun h1 h2 => by have h1 := (by simpa [upd] using h1 : LJ 6 = true); have h2 := (by simpa [upd] using h2 : LJ 11 = true); simpa [updS] using kEW6_W11 h1 h2)⟩
        · rintro LJ sJ wJ hL hd ⟨kB0, kB1, kB2, kQ4, kQ7, kQ11, kLow, kSz, kZ12_1, kZ12_8, kZ12_11, hs1, hs2, hs3, hs7, hs8, hs10, hs11, hs12, ht9, hu9, hv1, hv2, hv3, hv5, hv8, hv9, hv10, kP0, kP1, kW0, kW4, kW6, kW7, kW11, kEP0_P1, kEP0_W0, kEP0_W4, kEP0_W6, kEP0_W7, kEP0_W11, kEP1_W0, kEP1_W4, kEP1_W6, kEP1_W7, kEP1_W11, kEW0_W6, kEW4_W6, kEW6_W7, kEW6_W11⟩ K hK
          clear hd
          rw [if_pos (by rfl)]
          unfold opF
          have gt9 := ht9 (by cases hh : LJ 12 with | false => rfl | true => exact absurd (kZ12_8 hh) (by rw [hL]; decide))
          go_simp
          refine hK _ _ ⟨?_, ?_, ?_, ?_, ?_, ?_, ?_, ?_, ?_, ?_, ?_, ?_, ?_, ?_, ?_, ?_, ?_, ?_, ?_, ?_, ?_, ?_, ?_, ?_, ?_, ?_, ?_, ?_, ?_, ?_, ?_, ?_, ?_, ?_, ?_, ?_, ?_, ?_, ?_, ?_, ?_, ?_, ?_, ?_, ?_, ?_, ?_, ?_, ?_, ?_⟩ <;> first | assumption | (simp [upd, updS]; done) | (simp [upd, updS]; assumption)
        · rintro LJ sJ wJ hL hd ⟨kB0, kB1, kB2, kQ4, kQ7, kQ11, kLow, kSz, kZ12_1, kZ12_8, kZ12_11, hs1, hs2, hs3, hs7, hs8, hs10, hs11, hs12, ht9, hu9, hv1, hv2, hv3, hv5, hv8, hv9, hv10, kP0, kP1, kW0, kW4, kW6, kW7, kW11, kEP0_P1, kEP0_W0, kEP0_W4, kEP0_W6, kEP0_W7, kEP0_W11, kEP1_W0, kEP1_W4, kEP1_W6, kEP1_W7, kEP1_W11, kEW0_W6, kEW4_W6, kEW6_W7, kEW6_W11⟩ K hK
          clear hd
          rw [if_pos (by rfl)]
          unfold opF
          go_simp
          refine hK _ _ ⟨?_, ?_, ?_, ?_, ?_, ?_, ?_, ?_, ?_, ?_, ?_, ?_, ?_, ?_, ?_, ?_, ?_, ?_, ?_, ?_, ?_, ?_, ?_, ?_, ?_, ?_, ?_, ?_, ?_, ?_, ?_, ?_, ?_, ?_, ?_, ?_, ?_, ?_, ?_, ?_, ?_, ?_, ?_, ?_, ?_, ?_, ?_, ?_, ?_, ?_⟩ <;> first | assumption | (simp [upd, updS]; done) | (simp [upd, updS]; assumption)
        · rintro LJ sJ wJ hL hd ⟨kB0, kB1, kB2, kQ4, kQ7, kQ11, kLow, kSz, kZ12_1, kZ12_8, kZ12_11, hs1, hs2, hs3, hs7, hs8, hs10, hs11, hs12, ht9, hu9, hv1, hv2, hv3, hv5, hv8, hv9, hv10, kP0, kP1, kW0, kW4, kW6, kW7, kW11, kEP0_P1, kEP0_W0, kEP0_W4, kEP0_W6, kEP0_W7, kEP0_W11, kEP1_W0, kEP1_W4, kEP1_W6, kEP1_W7, kEP1_W11, kEW0_W6, kEW4_W6, kEW6_W7, kEW6_W11⟩ K hK
          have ga8 := hd ⟨8, .data⟩ (by simp) rfl
          have gv8 := hv8 ga8
          have ga9 := hd ⟨9, .data⟩ (by simp) rfl
          have gv9 := hv9 ga9
          clear hd
          rw [if_pos (by rfl)]
          unfold opF
          go_simp
          refine hK _ _ ⟨?_, ?_, ?_, ?_, ?_, ?_, ?_, ?_, ?_, ?_, ?_, ?_, ?_, ?_, ?_, ?_, ?_, ?_, ?_, ?_, ?_, ?_, ?_, ?_, ?_, ?_, ?_, ?_, ?_, ?_, ?_, ?_, ?_, ?_, ?_, ?_, ?_, ?_, ?_, ?_, ?_, ?_, ?_, ?_, ?_, ?_, ?_, ?_, ?_, ?_⟩ <;> first | assumption | (simp [upd, updS]; done) | (simp [upd, updS]; assumption)
        · rintro LJ sJ wJ hL hd ⟨kB0, kB1, kB2, kQ4, kQ7, kQ11, kLow, kSz, kZ12_1, kZ12_8, kZ12_11, hs1, hs2, hs3, hs7, hs8, hs10, hs11, hs12, ht9, hu9, hv1, hv2, hv3, hv5, hv8, hv9, hv10, kP0, kP1, kW0, kW4, kW6, kW7, kW11, kEP0_P1, kEP0_W0, kEP0_W4, kEP0_W6, kEP0_W7, kEP0_W11, kEP1_W0, kEP1_W4, kEP1_W6, kEP1_W7, kEP1_W11, kEW0_W6, kEW4_W6, kEW6_W7, kEW6_W11⟩ K hK
          have ga7 := hd ⟨7, .data⟩ (by simp) rfl
          have ga10 := hd ⟨10, .data⟩ (by simp) rfl
          have gv10 := hv10 ga10
          have ga7 := hd ⟨7, .chain⟩ (by simp) rfl
          clear hd
          rw [if_pos (by rfl)]
          have hcj : LJ 11 = false := hL
          have kWx := kW7 ga7 hcj
          refine opF_app (d := 85) rfl (by decide) (.tmp 81) (.tmp 84) _ rfl 3 i0 _ 8 Try.underlying48 hi0 hz0 hz1 hz2 rfl (by decide) (fun _ => rfl) int_one N0 (sJ 81) (ot.take k ++ [1 + x]) (ot.drop k) ad cd (by go_simp) (by go_simp) kWx (hsd _ _ rfl (Own.rd' (f := (fun n : Int => [Value.int .i64 n])) (m := 1) (fun _ => rfl) kP1 rfl)) (by simp; unfold maxLen; omega) (by simp; omega) (by omega) (fun v' w' hO hG hV => ?_)
          exact hK _ _ ⟨(Cells.grown (kB0) hG (Own.far kWx (by omega))), (Cells.grown (kB1) hG (Own.far kWx (by omega))), (Cells.grown (kB2) hG (Own.far kWx (by omega))), (by simpa [upd] using kQ4), (by simpa [upd] using kQ7), (by simp [upd]; exact ga7), (low_grown kLow hG (by omega) (fun k hk => by have := (World.ownsRow.lt kWx k hk).1; omega)), (by first | omega | (simp; done) | (simp; omega) | (have := hG.size; omega)), (by simpa [upd] using kZ12_1), (by simpa [upd] using kZ12_8), (by simp [upd]), (by simpa [upd, updS] using hs1), (by simpa [upd, updS] using hs2), (by simpa [upd, updS] using hs3), (by simpa [upd, updS] using hs7), (by simpa [upd, updS] using hs8), (by simpa [upd, updS] using hs10), (by simpa [upd, updS] using hs11), (by simpa [upd, updS] using hs12), (by simpa [upd, updS] using ht9), (fun h => by have h := (by simpa [upd] using h : LJ 12 = true); exact absurd (kZ12_11 h) (by rw [hL]; decide)), (by simpa [upd, updS] using hv1), (by simpa [upd, updS] using hv2), (by simpa [upd, updS] using hv3), (by simpa [upd, updS] using hv5), (by simpa [upd, updS] using hv8), (by simpa [upd, updS] using hv9), (by simpa [upd, updS] using hv10), (by simpa [updS] using Own.grown kP0 hG (kEP0_W7 ga7 hcj)), (by simpa [updS] using Own.grown kP1 hG (kEP1_W7 ga7 hcj)), (fun h1 h2 => by have h1 := (by simpa [upd] using h1 : LJ 0 = true); have h2 := (by simpa [upd] using h2 : LJ 4 = false); exact absurd (kQ7 ga7) (by rw [h2]; decide)), (fun h1 h2 => by have h1 := (by simpa [upd] using h1 : LJ 4 = true); have h2 := (by simpa [upd] using h2 : LJ 7 = false); exact absurd ga7 (by rw [h2]; decide)), (fun h1 => by have h1 := (by simpa [upd] using h1 : LJ 6 = true); simpa [updS] using Own.grown (kW6 h1) hG (kEW6_W7 h1 ga7 hcj)), (fun h1 h2 => by simp [upd] at h2), (fun _ => by first | exact hO | (simp only [updS_some, ↓reduceIte]; exact hO) | (simpa [updS] using hO)), (by simpa [updS] using kEP0_P1 ), (fun h1 h2 => by have h1 := (by simpa [upd] using h1 : LJ 0 = true); have h2 := (by simpa [upd] using h2 : LJ 4 = false); simpa [updS] using kEP0_W0 h1 h2), (fun h1 h2 => by have h1 := (by simpa [upd] using h1 : LJ 4 = true); have h2 := (by simpa [upd] using h2 : LJ 7 = false); simpa [updS] using kEP0_W4 h1 h2), (fun h1 => by have h1 := (by simpa [upd] using h1 : LJ 6 = true); simpa [updS] using kEP0_W6 h1), (fun h1 h2 => by simp [upd] at h2), (fun h1 => by simpa [updS] using Apart.app kP0 (kEP0_W7 ga7 hcj) hV), (fun h1 h2 => by have h1 := (by simpa [upd] using h1 : LJ 0 = true); have h2 := (by simpa [upd] using h2 : LJ 4 = false); simpa [updS] using kEP1_W0 h1 h2), (fun h1 h2 => by have h1 := (by simpa [upd] using h1 : LJ 4 = true); have h2 := (by simpa [upd] using h2 : LJ 7 = false); simpa [updS] using kEP1_W4 h1 h2), (fun h1 => by have h1 := (by simpa [upd] using h1 : LJ 6 = true); simpa [updS] using kEP1_W6 h1), (fun h1 h2 => by simp [upd] at h2), (fun h1 => by simpa [updS] using Apart.app kP1 (kEP1_W7 ga7 hcj) hV), (fun h1 h2 h3 => by have h1 := (by simpa [upd] using h1 : LJ 0 = true); have h2 := (by simpa [upd] using h2 : LJ 4 = false); have h3 := (by simpa [upd] using h3 : LJ 6 = true); simpa [updS] using kEW0_W6 h1 h2 h3), (fun h1 h2 h3 => by have h1 := (by simpa [upd] using h1 : LJ 4 = true); have h2 := (by simpa [upd] using h2 : LJ 7 = false); have h3 := (by simpa [upd] using h3 : LJ 6 = true); simpa [updS] using kEW4_W6 h1 h2 h3), (fun h1 h2 h3 => by simp [upd] at h3), (fun h1 h2 => by have h1 := (by simpa [upd] using h1 : LJ 6 = true); simpa [updS] using Apart.app (kW6 h1) (kEW6_W7 h1 ga7 hcj) hV)⟩
        · rintro LJ sJ wJ hL hd ⟨kB0, kB1, kB2, kQ4, kQ7, kQ11, kLow, kSz, kZ12_1, kZ12_8, kZ12_11, hs1, hs2, hs3, hs7, hs8, hs10, hs11, hs12, ht9, hu9, hv1, hv2, hv3, hv5, hv8, hv9, hv10, kP0, kP1, kW0, kW4, kW6, kW7, kW11, kEP0_P1, kEP0_W0, kEP0_W4, kEP0_W6, kEP0_W7, kEP0_W11, kEP1_W0, kEP1_W4, kEP1_W6, kEP1_W7, kEP1_W11, kEW0_W6, kEW4_W6, kEW6_W7, kEW6_W11⟩ K hK
          have ga11 := hd ⟨11, .data⟩ (by simp) rfl
          have ga11 := hd ⟨11, .chain⟩ (by simp) rfl
          have ga0 := hd ⟨0, .phase⟩ (by simp) rfl
          have ga1 := hd ⟨1, .phase⟩ (by simp) rfl
          have gv1 := hv1 ga1
          have ga2 := hd ⟨2, .phase⟩ (by simp) rfl
          have gv2 := hv2 ga2
          have ga3 := hd ⟨3, .phase⟩ (by simp) rfl
          have gv3 := hv3 ga3
          have ga4 := hd ⟨4, .phase⟩ (by simp) rfl
          have ga5 := hd ⟨5, .phase⟩ (by simp) rfl
          have gv5 := hv5 ga5
          have ga6 := hd ⟨6, .phase⟩ (by simp) rfl
          have ga7 := hd ⟨7, .phase⟩ (by simp) rfl
          have ga8 := hd ⟨8, .phase⟩ (by simp) rfl
          have gv8 := hv8 ga8
          have ga9 := hd ⟨9, .phase⟩ (by simp) rfl
          have gv9 := hv9 ga9
          have ga10 := hd ⟨10, .phase⟩ (by simp) rfl
          have gv10 := hv10 ga10
          have ga11 := hd ⟨11, .phase⟩ (by simp) rfl
          clear hd
          rw [if_pos (by rfl)]
          unfold opF
          go_simp
          exact hK _ _ ⟨(kB0), (kB1), (kB2), (by simpa [upd] using kQ4), (by simpa [upd] using kQ7), (by simpa [upd] using kQ11), kLow, (by first | omega | (simp; done) | (simp; omega) | (have := hG.size; omega)), (by simp [upd]; exact ga1), (by simp [upd]; exact ga8), (by simp [upd]; exact ga11), (by simpa [upd, updS] using hs1), (by simpa [upd, updS] using hs2), (by simpa [upd, updS] using hs3), (by simpa [upd, updS] using hs7), (by simpa [upd, updS] using hs8), (by simpa [upd, updS] using hs10), (by simpa [upd, updS] using hs11), (by simpa [upd, updS] using hs12), (by simp [upd]), (by simp [upd, updS]), (by simpa [upd, updS] using hv1), (by simpa [upd, updS] using hv2), (by simpa [upd, updS] using hv3), (by simpa [upd, updS] using hv5), (by simpa [upd, updS] using hv8), (by simpa [upd, updS] using hv9), (by simpa [upd, updS] using hv10), (by simpa [updS] using kP0), (by simpa [updS] using kP1), (fun h1 h2 => by have h1 := (by simpa [upd] using h1 : LJ 0 = true); have h2 := (by simpa [upd] using h2 : LJ 4 = false); simpa [updS] using (kW0 h1 h2)), (fun h1 h2 => by have h1 := (by simpa [upd] using h1 : LJ 4 = true); have h2 := (by simpa [upd] using h2 : LJ 7 = false); simpa [updS] using (kW4 h1 h2)), (fun h1 => by have h1 := (by simpa [upd] using h1 : LJ 6 = true); simpa [updS] using (kW6 h1)), (fun h1 h2 => by have h1 := (by simpa [upd] using h1 : LJ 7 = true); have h2 := (by simpa [upd] using h2 : LJ 11 = false); simpa [updS] using (kW7 h1 h2)), (fun h1 => by have h1 := (by simpa [upd] using h1 : LJ 11 = true); simpa [updS] using (kW11 h1)), (by simpa [updS] using kEP0_P1 ), (fun h1 h2 => by have h1 := (by simpa [upd] using h1 : LJ 0 = true); have h2 := (by simpa [upd] using h2 : LJ 4 = false); simpa [updS] using kEP0_W0 h1 h2), (fun h1 h2 => by have h1 := (by simpa [upd] using h1 : LJ 4 = true); have h2 := (by simpa [upd] using h2 : LJ 7 = false); simpa [updS] using kEP0_W4 h1 h2), (fun h1 => by have h1 := (by simpa [upd] using h1 : LJ 6 = true); simpa [updS] using kEP0_W6 h1), (fun h1 h2 => by have h1 := (by simpa [upd] using h1 : LJ 7 = true); have h2 := (by simpa [upd] using h2 : LJ 11 = false); simpa [updS] using kEP0_W7 h1 h2), (fun h1 => by have h1 := (by simpa [upd] using h1 : LJ 11 = true); simpa [updS] using kEP0_W11 h1), (fun h1 h2 => by have h1 := (by simpa [upd] using h1 : LJ 0 = true); have h2 := (by simpa [upd] using h2 : LJ 4 = false); simpa [updS] using kEP1_W0 h1 h2), (fun h1 h2 => by have h1 := (by simpa [upd] using h1 : LJ 4 = true); have h2 := (by simpa [upd] using h2 : LJ 7 = false); simpa [updS] using kEP1_W4 h1 h2), (fun h1 => by have h1 := (by simpa [upd] using h1 : LJ 6 = true); simpa [updS] using kEP1_W6 h1), (fun h1 h2 => by have h1 := (by simpa [upd] using h1 : LJ 7 = true); have h2 := (by simpa [upd] using h2 : LJ 11 = false); simpa [updS] using kEP1_W7 h1 h2), (fun h1 => by have h1 := (by simpa [upd] using h1 : LJ 11 = true); simpa [updS] using kEP1_W11 h1), (fun h1 h2 h3 => by have h1 := (by simpa [upd] using h1 : LJ 0 = true); have h2 := (by simpa [upd] using h2 : LJ 4 = false); have h3 := (by simpa [upd] using h3 : LJ 6 = true); simpa [updS] using kEW0_W6 h1 h2 h3), (fun h1 h2 h3 => by have h1 := (by simpa [upd] using h1 : LJ 4 = true); have h2 := (by simpa [upd] using h2 : LJ 7 = false); have h3 := (by simpa [upd] using h3 : LJ 6 = true); simpa [updS] using kEW4_W6 h1 h2 h3), (fun h1 h2 h3 => by have h1 := (by simpa [upd] using h1 : LJ 6 = true); have h2 := (by simpa [upd] using h2 : LJ 7 = true); have h3 := (by simpa [upd] using h3 : LJ 11 = false); simpa [updS] using kEW6_W7 h1 h2 h3), (fun h1 h2 => by have h1 := (by simpa [upd] using h1 : LJ 6 = true); have h2 := (by simpa [upd] using h2 : LJ 11 = true); simpa [updS] using kEW6_W11 h1 h2)⟩
      clear sl1 sl2 sl3 sl7 sl8 sl9 sl10 sl11 sl12 k3 k7 k8 hOj hOo hap HBr hNr
      rintro s wq3 ⟨vo2, sl1, sl2, sl3, sl7, sl8, sl9, sl10, k3, k7, k8, hOj, hOo, hap, hB, hNr⟩
      have hwi : IntKind.i64.wrap ((i : Int) + 1) = (i : Int) + 1 := IntWalk.i64_in _ (by omega)
      repeat (first | ((first | (refine listF_step rfl (fun K' hK => ?_)) | (refine listF_yes rfl rfl (by decide) ?_ (fun K' hK => ?_); (focus (go_simp; done)))); unfold opF; go_simp; (refine hK _ _ ?_); clear hK K') | (refine listF_no (b' := true) rfl rfl (by decide) ?_ ?_ ?_; (focus (go_simp; done)); (focus rfl)) | (refine listF_no (b' := false) rfl rfl (by decide) ?_ ?_ ?_; (focus (go_simp; done)); (focus rfl)) | (refine listF_nu rfl rfl (by decide) ?_ ?_; (focus (go_simp; done))) | (refine listF_nil ?_) | (refine region_F ?_) | (refine cond_F true ?_ ?_; (focus (go_simp; done)); simp only [if_true]) | (refine cond_F false ?_ ?_; (focus (go_simp; done)); simp only [Bool.false_eq_true, if_false]) | (with_reducible go_step))
      refine ⟨_, _, rfl, ?_, i + 1, ns ++ [1 + x], ot.take k ++ [1 + x] ++ ot.drop k, vj2, vo2, rfl, by omega, by omega, hid ⟨?_, ?_, perm_put Hns.out.2.2 k⟩, (by first | (go_simp; done) | exact sl1 | (simp only [updS_some, updS_none, Nat.reduceEqDiff, ↓reduceIte]; exact sl1)), (by first | (go_simp; done) | exact sl2 | (simp only [updS_some, updS_none, Nat.reduceEqDiff, ↓reduceIte]; exact sl2)), (by first | (go_simp; done) | exact sl3 | (simp only [updS_some, updS_none, Nat.reduceEqDiff, ↓reduceIte]; exact sl3)), (by first | (go_simp; done) | exact sl7 | (simp only [updS_some, updS_none, Nat.reduceEqDiff, ↓reduceIte]; exact sl7)), (by first | (go_simp; done) | exact sl8 | (simp only [updS_some, updS_none, Nat.reduceEqDiff, ↓reduceIte]; exact sl8)), (by first | (go_simp; done) | exact sl9 | (simp only [updS_some, updS_none, Nat.reduceEqDiff, ↓reduceIte]; exact sl9)), by go_simp, k3, k7, k8, hOj, hOo, hap, hB, hNr⟩
      · omega
      · rw [List.length_append, Hns.out.1]; rfl
      · intro y hy
        rcases List.mem_append.1 hy with h | h
        · exact Hns.out.2.1 y h
        · simp at h; omega
    · rw [hc] at sl36
      obtain ⟨ao2, co2, rfl, hro, hno⟩ := Own.slice (f := (fun n : Int => [Value.int .i64 n])) (m := 1) (fun _ => rfl) hOo
      obtain ⟨aj, cj, rfl, hrj, hnj⟩ := Own.slice (f := Job.cs) (m := 4) (fun _ => rfl) hOj
      have hnl := Hns.out.1
      have hns8 : ns.length ≤ 8 := by omega
      have herr := shW_err Hr.out hns8 Hns.out.2.1
      have hperm : ot.Perm ((shW r ns).jobs.map Job.claim) := by rw [show (shW r ns).jobs = shJobs ns from rfl, shJobs_claims]; exact Hns.out.2.2
      obtain ⟨hdE, hdl, hdw, hds⟩ := short_day (shW_short Hr.out hns8 Hns.out.2.1) herr ot hperm
      have hotl : ot.length = ns.length := Hns.out.2.2.length_eq
      have hotb : ∀ x ∈ ot, 1 ≤ x ∧ x ≤ 256 := fun x hx => Hns.out.2.1 x (Hns.out.2.2.mem_iff.1 hx)
      have hWl : (shW r ns).jobs.length = ns.length := shJobs_len ns
      have hrl : (shW r ns).rules.load = r.load := rfl
      rw [hrl] at hds
      have hWn := hid (show WorkIn wq (shW r ns) aj none from ⟨hrj, .inl rfl, by rw [hWl]; omega, by simp [shW], fun i hi => by
        have : i < ns.length := by rw [← hWl]; exact hi
        have e : (shW r ns).jobs[i] = shJob i (ns.getD i 0) := by simp [shW, shJobs]
        rw [e]; exact Nat.le_trans (names_size i) (by omega)⟩)
      have hdk := day_dok hdE
      clear hap hOj hOo hrj hperm herr hrl hnj hno
      generalize hWe : shW r ns = W at *
      have k8' : Cells wq B8 #[.int .i64 W.rules.slice, .int .i64 W.rules.load, .int .i64 W.rules.dump, .int .i64 W.rules.patience, .int .i64 W.rules.rate, .slice aj W.jobs.length cj, .slice none W.faults.length 0].toList := by rw [← hWe]; exact k8
      clear hWe k8
      have hotq : ot.length = (day W 5000).2.jobs.length := by omega
      have n1 : (((day W 5000).2.jobs.length : Int) != (W.jobs.length : Int)) = false := by rw [hdl]; simp
      have hot8 : ot.length ≤ 8 := by omega
      have Hdl := hid hdl
      have Hdw := hid hdw
      have Hds := hid hds
      have Hotq := hid hotq
      have Hotb := hid hotb
      have HdE := hid hdE
      have Hdk := hid hdk
      clear hdl hdw hds hotq hotb hdE hdk hnl hotl hWl hns8
      have k8'_0 := k8'.cell 0 rfl
      have k8'_1 := k8'.cell 1 rfl
      have k8'_2 := k8'.cell 2 rfl
      have k8'_3 := k8'.cell 3 rfl
      have k8'_4 := k8'.cell 4 rfl
      have k8'_5 := k8'.cell 5 rfl
      have k8'_6 := k8'.cell 6 rfl
      have k8'_s := k8'.1
      repeat (first | ((first | (refine listF_step rfl (fun K' hK => ?_)) | (refine listF_yes rfl rfl (by decide) ?_ (fun K' hK => ?_); (focus (go_simp; done)))); unfold opF; go_simp; (refine hK _ _ ?_); clear hK K') | (refine listF_no (b' := true) rfl rfl (by decide) ?_ ?_ ?_; (focus (go_simp; done)); (focus rfl)) | (refine listF_no (b' := false) rfl rfl (by decide) ?_ ?_ ?_; (focus (go_simp; done)); (focus rfl)) | (refine listF_nu rfl rfl (by decide) ?_ ?_; (focus (go_simp; done))) | (refine listF_nil ?_) | (refine region_F ?_) | (refine cond_F true ?_ ?_; (focus (go_simp; done)); simp only [if_true]) | (refine cond_F false ?_ ?_; (focus (go_simp; done)); simp only [Bool.false_eq_true, if_false]) | (with_reducible go_step))
      (refine listF_abs ?_; intro s' hs'; have gl3 := congrFun hs' 3; simp only [updS_some, updS_none, Nat.reduceEqDiff, ↓reduceIte] at gl3; (try rw [sl3] at gl3); have gl8 := congrFun hs' 8; simp only [updS_some, updS_none, Nat.reduceEqDiff, ↓reduceIte] at gl8; (try rw [sl8] at gl8); have gl9 := congrFun hs' 9; simp only [updS_some, updS_none, Nat.reduceEqDiff, ↓reduceIte] at gl9; (try rw [sl9] at gl9); have gl87 := congrFun hs' 87; simp only [updS_some, updS_none, Nat.reduceEqDiff, ↓reduceIte] at gl87; (try rw [sl87] at gl87); clear hs'; (try clear sl3); (try clear sl8); (try clear sl9); (try clear sl87); have sl3 := gl3; clear gl3; have sl8 := gl8; clear gl8; have sl9 := gl9; clear gl9; have sl87 := gl87; clear gl87)
      (refine listF_step rfl (fun K' hK => ?_); unfold opF; go_simp; refine (qDay_any W 5000 aj none cj 0 _ hWn.out).mono ?_; rintro e w5 ⟨a13, c13, a14, c14, rfl, hl, hq, hb5, _⟩; refine ⟨_, rfl, hK _ _ ?_⟩; clear hK K')
      rw [HdE.out]
      clear k8'_0 k8'_1 k8'_2 k8'_3 k8'_4 k8'_5 k8'_6 k8'_s
      replace k3 := k3.at hb5
      replace k8' := k8'.at hb5
      replace hro := Rd.at hro hb5
      have HB5 := hid (HBr.out.trans (hb5.mono HBr.out.size) : Below w.heap.size w w5)
      clear hb5 HBr hl
      (refine listF_abs ?_; intro s' hs'; have gl3 := congrFun hs' 3; simp only [updS_some, updS_none, Nat.reduceEqDiff, ↓reduceIte] at gl3; (try rw [sl3] at gl3); have gl8 := congrFun hs' 8; simp only [updS_some, updS_none, Nat.reduceEqDiff, ↓reduceIte] at gl8; (try rw [sl8] at gl8); have gl9 := congrFun hs' 9; simp only [updS_some, updS_none, Nat.reduceEqDiff, ↓reduceIte] at gl9; (try rw [sl9] at gl9); have gl88 := congrFun hs' 88; simp only [updS_some, updS_none, Nat.reduceEqDiff, ↓reduceIte] at gl88; (try rw [sl88] at gl88); clear hs'; (try clear sl3); (try clear sl8); (try clear sl9); (try clear sl88); have sl3 := gl3; clear gl3; have sl8 := gl8; clear gl8; have sl9 := gl9; clear gl9; have sl88 := gl88; clear gl88)
      iterate 8 (refine listF_step rfl (fun K' hK => ?_); unfold opF; go_simp; refine hK _ _ ?_; clear hK K')
      refine listF_absw ?_
      intro w6 hw6
      have k14 : Cells w6 w5.heap.size [.int .i64 (day W 5000).2.now, .slice a14 (day W 5000).2.jobs.length c14] := by rw [hw6]; exact Cells.new (cs := #[.int .i64 (day W 5000).2.now, .slice a14 (day W 5000).2.jobs.length c14]) rfl
      have hbw6 : Below w5.heap.size w5 w6 := by rw [hw6]; exact (by repeat (first | (with_reducible exact Below.refl _ w5) | (with_reducible refine bdrewN ?_ _) | (with_reducible refine Below.drew ?_) | (with_reducible refine Below.setCell ?_ (by first | omega | (simp; done) | (simp; omega)) _) | (with_reducible refine Below.alloc ?_ (by first | omega | (simp; done) | (simp; omega)) _)))
      clear hw6
      replace k3 := k3.at hbw6
      replace k8' := k8'.at hbw6
      replace hq := Rd.at hq hbw6
      replace hro := Rd.at hro hbw6
      have HB6 := hid (HB5.out.trans (hbw6.mono HB5.out.size) : Below w.heap.size w w6)
      clear hbw6 HB5
      generalize w5.heap.size = B14 at *
      (refine listF_abs ?_; intro s' hs'; have gl3 := congrFun hs' 3; simp only [updS_some, updS_none, Nat.reduceEqDiff, ↓reduceIte] at gl3; (try rw [sl3] at gl3); have gl8 := congrFun hs' 8; simp only [updS_some, updS_none, Nat.reduceEqDiff, ↓reduceIte] at gl8; (try rw [sl8] at gl8); have gl9 := congrFun hs' 9; simp only [updS_some, updS_none, Nat.reduceEqDiff, ↓reduceIte] at gl9; (try rw [sl9] at gl9); have gl14 := congrFun hs' 14; simp only [updS_some, updS_none, Nat.reduceEqDiff, ↓reduceIte] at gl14; (try rw [sl14] at gl14); have gl15 := congrFun hs' 15; simp only [updS_some, updS_none, Nat.reduceEqDiff, ↓reduceIte] at gl15; (try rw [sl15] at gl15); clear hs'; (try clear sl3); (try clear sl8); (try clear sl9); (try clear sl14); (try clear sl15); have sl3 := gl3; clear gl3; have sl8 := gl8; clear gl8; have sl9 := gl9; clear gl9; have sl14 := gl14; clear gl14; have sl15 := gl15; clear gl15)
      have k8'_0 := k8'.cell 0 rfl
      have k8'_1 := k8'.cell 1 rfl
      have k8'_2 := k8'.cell 2 rfl
      have k8'_3 := k8'.cell 3 rfl
      have k8'_4 := k8'.cell 4 rfl
      have k8'_5 := k8'.cell 5 rfl
      have k8'_6 := k8'.cell 6 rfl
      have k8'_s := k8'.1
      have k14_0 := k14.cell 0 rfl
      have k14_1 := k14.cell 1 rfl
      have k14_s := k14.1
      repeat (first | ((first | (refine listF_step rfl (fun K' hK => ?_)) | (refine listF_yes rfl rfl (by decide) ?_ (fun K' hK => ?_); (focus (go_simp; done)))); unfold opF; go_simp; (refine hK _ _ ?_); clear hK K') | (refine listF_no (b' := true) rfl rfl (by decide) ?_ ?_ ?_; (focus (go_simp; done)); (focus rfl)) | (refine listF_no (b' := false) rfl rfl (by decide) ?_ ?_ ?_; (focus (go_simp; done)); (focus rfl)) | (refine listF_nu rfl rfl (by decide) ?_ ?_; (focus (go_simp; done))) | (refine listF_nil ?_) | (refine region_F ?_) | (refine cond_F true ?_ ?_; (focus (go_simp; done)); simp only [if_true]) | (refine cond_F false ?_ ?_; (focus (go_simp; done)); simp only [Bool.false_eq_true, if_false]) | (with_reducible go_step))
      (refine wp_abs ?_; intro s' hs'; have gl3 := congrFun hs' 3; simp only [updS_some, updS_none, Nat.reduceEqDiff, ↓reduceIte] at gl3; (try rw [sl3] at gl3); have gl9 := congrFun hs' 9; simp only [updS_some, updS_none, Nat.reduceEqDiff, ↓reduceIte] at gl9; (try rw [sl9] at gl9); have gl14 := congrFun hs' 14; simp only [updS_some, updS_none, Nat.reduceEqDiff, ↓reduceIte] at gl14; (try rw [sl14] at gl14); have gl16 := congrFun hs' 16; simp only [updS_some, updS_none, Nat.reduceEqDiff, ↓reduceIte] at gl16; (try rw [sl16] at gl16); have gl17 := congrFun hs' 17; simp only [updS_some, updS_none, Nat.reduceEqDiff, ↓reduceIte] at gl17; (try rw [sl17] at gl17); have gl18 := congrFun hs' 18; simp only [updS_some, updS_none, Nat.reduceEqDiff, ↓reduceIte] at gl18; (try rw [sl18] at gl18); have gl19 := congrFun hs' 19; simp only [updS_some, updS_none, Nat.reduceEqDiff, ↓reduceIte] at gl19; (try rw [sl19] at gl19); clear hs'; (try clear sl3); (try clear sl9); (try clear sl14); (try clear sl16); (try clear sl17); (try clear sl18); (try clear sl19); have sl3 := gl3; clear gl3; have sl9 := gl9; clear gl9; have sl14 := gl14; clear gl14; have sl16 := gl16; clear gl16; have sl17 := gl17; clear gl17; have sl18 := gl18; clear gl18; have sl19 := gl19; clear gl19)
      clear k8'_0 k8'_1 k8'_2 k8'_3 k8'_4 k8'_5 k8'_6 k8'_s k14_0 k14_1 k14_s
      clear n1
      refine loop_F (n := 142) (fun k s wr => ∃ (i : Nat) (e a sm : Int), k = ot.length - i ∧ i ≤ ot.length ∧ Hid (a + cost r.load e (ot.drop i) = cost r.load 0 ot ∧ sm = ((List.range i).map (endOne (day W 5000).2)).sum) ∧ (0 ≤ e ∧ e ≤ 300 * (i : Int)) ∧ (0 ≤ a ∧ a ≤ 3000 * (i : Int)) ∧ (-10000 * (i : Int) ≤ sm ∧ sm ≤ 10000 * (i : Int)) ∧
        s 3 = .pointer (some ⟨w.heap.size, 0, none⟩) ∧ s 9 = .slice ao2 ot.length co2 ∧ s 14 = .pointer (some ⟨B14, 0, none⟩) ∧ s 16 = .int .i64 sm ∧ s 17 = .int .i64 a ∧ s 18 = .int .i64 e ∧ s 19 = .int .i64 i ∧ Below w6.heap.size w6 wr) (k0 := ot.length) ⟨0, 0, 0, 0, rfl, by omega, hid ⟨by simp, rfl⟩, by omega, by omega, by omega, sl3, sl9, sl14, sl16, sl17, sl18, sl19, Below.refl _ _⟩ ?_
      clear sl3 sl9 sl14 sl16 sl17 sl18 sl19
      rintro k s wi ⟨i2, e, a, sm, rfl, hi2, hI, heb, hab, hsb, sl3, sl9, sl14, sl16, sl17, sl18, sl19, hBi⟩
      replace k3 := k3.at hBi
      replace k14 := k14.at hBi
      replace hq := Rd.at hq hBi
      replace hro := Rd.at hro hBi
      have HBi := hid hBi
      have HBw := hid (HB6.out.trans (hBi.mono HB6.out.size) : Below w.heap.size w wi)
      clear hBi
      by_cases hlt : i2 < ot.length
      · have hltq : i2 < (day W 5000).2.jobs.length := by have := Hotq.out; omega
        have hltW : i2 < W.jobs.length := by have := Hdl.out; omega
        obtain ⟨x1, o1, rfl, hx1, d1, d2, d3, d4, d5⟩ := RdSts.ne hq hltq
        obtain ⟨x2, o2, rfl, hx2, e1⟩ := RdInts.ne hro hlt
        have hxb := Hotb.out ot[i2] (List.getElem_mem hlt)
        have hwy := Hdw.out i2 hltW
        have hend := (Hdk.out.st i2 hltq hltW).2.2.2.2.1
        have hcs := cost_step (load := r.load) (e := e) (a := a) hlt hI.out.1
        have hsm : sm + (day W 5000).2.jobs[i2].ended = ((List.range (i2 + 1)).map (endOne (day W 5000).2)).sum := by
          rw [List.range_succ, List.map_append, List.sum_append, ← hI.out.2]
          simp only [List.map_cons, List.map_nil, List.sum_cons, List.sum_nil, endOne]
          rw [if_neg (by rw [hwy]; decide), Qu.st_eq hltq]; omega
        rw [Qu.st_eq hltq] at hwy
        have Hcs := hid hcs
        have Hsm := hid hsm
        clear hcs hsm
        generalize (day W 5000).2.jobs[i2] = y at *
        generalize ot[i2] = x at *
        have r1 : (y.why != 1) = false := by simp [hwy]
        have v1 : IntKind.i64.wrap (e + r.load) = e + r.load := IntWalk.i64_in _ (by omega)
        have v2 : IntKind.i64.wrap (e + r.load + x) = e + r.load + x := IntWalk.i64_in _ (by omega)
        have v3 : IntKind.i64.wrap (a + (e + r.load + x)) = a + (e + r.load + x) := IntWalk.i64_in _ (by omega)
        have v4 : IntKind.i64.wrap (sm + y.ended) = sm + y.ended := IntWalk.i64_in _ (by omega)
        have v5 : IntKind.i64.wrap ((i2 : Int) + 1) = (i2 : Int) + 1 := IntWalk.i64_in _ (by omega)
        clear hwy
        have k3_0 := k3.cell 0 rfl
        have k3_1 := k3.cell 1 rfl
        have k3_2 := k3.cell 2 rfl
        have k3_3 := k3.cell 3 rfl
        have k3_4 := k3.cell 4 rfl
        have k3_s := k3.1
        have k14_0 := k14.cell 0 rfl
        have k14_1 := k14.cell 1 rfl
        have k14_s := k14.1
        repeat (first | ((first | (refine listF_step rfl (fun K' hK => ?_)) | (refine listF_yes rfl rfl (by decide) ?_ (fun K' hK => ?_); (focus (go_simp; done)))); unfold opF; go_simp; (refine hK _ _ ?_); clear hK K') | (refine listF_no (b' := true) rfl rfl (by decide) ?_ ?_ ?_; (focus (go_simp; done)); (focus rfl)) | (refine listF_no (b' := false) rfl rfl (by decide) ?_ ?_ ?_; (focus (go_simp; done)); (focus rfl)) | (refine listF_nu rfl rfl (by decide) ?_ ?_; (focus (go_simp; done))) | (refine listF_nil ?_) | (refine region_F ?_) | (refine cond_F true ?_ ?_; (focus (go_simp; done)); simp only [if_true]) | (refine cond_F false ?_ ?_; (focus (go_simp; done)); simp only [Bool.false_eq_true, if_false]) | (with_reducible go_step))
        refine regionQ_F (Below wi.heap.size wi) (by kernel_rfl) (by kernel_rfl) (Below.refl _ _).drew ?_
        repeat (first | (refine listQ_step (v := ?_) rfl ?_ ?_; rotate_left; (focus (intro wq hwq; obtain ⟨hcq, hfq⟩ := bcell hwq; go_simp; (first | rfl | (exact ⟨rfl, rfl⟩) | (fail))))) | (refine listQ_yes (v := ?_) rfl rfl (by decide) ?_ ?_ ?_; rotate_left; (focus (go_simp; done)); (focus (intro wq hwq; obtain ⟨hcq, hfq⟩ := bcell hwq; go_simp; (first | rfl | (exact ⟨rfl, rfl⟩) | (fail))))) | (refine listQ_no (b' := true) rfl rfl (by decide) ?_ ?_ ?_; (focus (go_simp; done)); (focus rfl)) | (refine listQ_no (b' := false) rfl rfl (by decide) ?_ ?_ ?_; (focus (go_simp; done)); (focus rfl)) | (refine listQ_nu rfl rfl (by decide) ?_ ?_; (focus (go_simp; done))) | (refine listQ_nil ?_))
        intro w7 hw7
        have hs7 := hw7.size
        clear k3_0 k3_1 k3_2 k3_3 k3_4 k3_s k14_0 k14_1 k14_s
        have f4 := (hw7.cell (p := ⟨x1, _, none⟩) hx1).trans d4
        have f5 := (hw7.cell (p := ⟨x1, _, none⟩) hx1).trans d5
        have y1 : x1 < w7.heap.size := by omega
        clear d1 d2 d3 d4 d5 e1 hx1 hx2
        replace k14 := k14.at hw7
        have HB7 := hid (HBi.out.trans (hw7.mono HBi.out.size) : Below w6.heap.size w6 w7)
        clear hw7 hq hro
        have k14_0 := k14.cell 0 rfl
        have k14_1 := k14.cell 1 rfl
        have k14_s := k14.1
        repeat (first | ((first | (refine listF_step rfl (fun K' hK => ?_)) | (refine listF_yes rfl rfl (by decide) ?_ (fun K' hK => ?_); (focus (go_simp; done)))); unfold opF; go_simp; (refine hK _ _ ?_); clear hK K') | (refine listF_no (b' := true) rfl rfl (by decide) ?_ ?_ ?_; (focus (go_simp; done)); (focus rfl)) | (refine listF_no (b' := false) rfl rfl (by decide) ?_ ?_ ?_; (focus (go_simp; done)); (focus rfl)) | (refine listF_nu rfl rfl (by decide) ?_ ?_; (focus (go_simp; done))) | (refine listF_nil ?_) | (refine region_F ?_) | (refine cond_F true ?_ ?_; (focus (go_simp; done)); simp only [if_true]) | (refine cond_F false ?_ ?_; (focus (go_simp; done)); simp only [Bool.false_eq_true, if_false]) | (with_reducible go_step))
        refine ⟨_, _, rfl, ?_, i2 + 1, e + r.load + x, a + (e + r.load + x), sm + y.ended, rfl, by omega, hid ⟨Hcs.out, Hsm.out⟩, by omega, by omega, by omega, (by first | (go_simp; done) | exact sl3 | (simp only [updS_some, updS_none, Nat.reduceEqDiff, ↓reduceIte]; exact sl3)), (by first | (go_simp; done) | exact sl9 | (simp only [updS_some, updS_none, Nat.reduceEqDiff, ↓reduceIte]; exact sl9)), (by first | (go_simp; done) | exact sl14 | (simp only [updS_some, updS_none, Nat.reduceEqDiff, ↓reduceIte]; exact sl14)), by go_simp, by go_simp, by go_simp, by go_simp, HB7.out⟩
        omega
      · have hie : i2 = ot.length := by omega
        have hle : sm ≤ a := by
          have h1 := hI.out.1
          have h2 := hI.out.2
          rw [hie, List.drop_of_length_le (Nat.le_refl _)] at h1
          rw [hie, Hotq.out] at h2
          have h3 := Hds.out
          unfold endSum at h3
          simp only [cost] at h1
          omega
        have r1 : decide (sm ≤ a) = true := decide_eq_true hle
        clear hie
        repeat (first | ((first | (refine listF_step rfl (fun K' hK => ?_)) | (refine listF_yes rfl rfl (by decide) ?_ (fun K' hK => ?_); (focus (go_simp; done)))); unfold opF; go_simp; (refine hK _ _ ?_); clear hK K') | (refine listF_no (b' := true) rfl rfl (by decide) ?_ ?_ ?_; (focus (go_simp; done)); (focus rfl)) | (refine listF_no (b' := false) rfl rfl (by decide) ?_ ?_ ?_; (focus (go_simp; done)); (focus rfl)) | (refine listF_nu rfl rfl (by decide) ?_ ?_; (focus (go_simp; done))) | (refine listF_nil ?_) | (refine region_F ?_) | (refine cond_F true ?_ ?_; (focus (go_simp; done)); simp only [if_true]) | (refine cond_F false ?_ ?_; (focus (go_simp; done)); simp only [Bool.false_eq_true, if_false]) | (with_reducible go_step))
        (refine listF_yes rfl rfl (by decide) ?_ (fun K' hK => ?_); (focus (go_simp; done)); unfold opF; go_simp; refine (awake_any _).mono ?_; rintro e w9 ⟨rfl, hb9⟩; refine ⟨_, rfl, hK _ _ ?_⟩; clear hK K')
        repeat (first | ((first | (refine listF_step rfl (fun K' hK => ?_)) | (refine listF_yes rfl rfl (by decide) ?_ (fun K' hK => ?_); (focus (go_simp; done)))); unfold opF; go_simp; (refine hK _ _ ?_); clear hK K') | (refine listF_no (b' := true) rfl rfl (by decide) ?_ ?_ ?_; (focus (go_simp; done)); (focus rfl)) | (refine listF_no (b' := false) rfl rfl (by decide) ?_ ?_ ?_; (focus (go_simp; done)); (focus rfl)) | (refine listF_nu rfl rfl (by decide) ?_ ?_; (focus (go_simp; done))) | (refine listF_nil ?_) | (refine region_F ?_) | (refine cond_F true ?_ ?_; (focus (go_simp; done)); simp only [if_true]) | (refine cond_F false ?_ ?_; (focus (go_simp; done)); simp only [Bool.false_eq_true, if_false]) | (with_reducible go_step))
        exact ret_F (.bool true) (res1_F Try.results13 (by decide) (by go_simp)) ⟨rfl, HBw.out.trans (hb9.mono HBw.out.size)⟩
  · have hr' : Rules.ok ⟨r.slice, r.load, r.dump, r.patience, r.rate⟩ = false := hr
    rw [hr'] at sl22
    repeat (first | ((first | (refine listF_step rfl (fun K' hK => ?_)) | (refine listF_yes rfl rfl (by decide) ?_ (fun K' hK => ?_); (focus (go_simp; done)))); unfold opF; go_simp; (refine hK _ _ ?_); clear hK K') | (refine listF_no (b' := true) rfl rfl (by decide) ?_ ?_ ?_; (focus (go_simp; done)); (focus rfl)) | (refine listF_no (b' := false) rfl rfl (by decide) ?_ ?_ ?_; (focus (go_simp; done)); (focus rfl)) | (refine listF_nu rfl rfl (by decide) ?_ ?_; (focus (go_simp; done))) | (refine listF_nil ?_) | (refine region_F ?_) | (refine cond_F true ?_ ?_; (focus (go_simp; done)); simp only [if_true]) | (refine cond_F false ?_ ?_; (focus (go_simp; done)); simp only [Bool.false_eq_true, if_false]) | (with_reducible go_step))
    (refine listF_step rfl (fun K' hK => ?_); unfold opF; go_simp; refine (awake_any _).mono ?_; rintro e w9 ⟨rfl, hb9⟩; refine ⟨_, rfl, hK _ _ ?_⟩; clear hK K')
    repeat (first | ((first | (refine listF_step rfl (fun K' hK => ?_)) | (refine listF_yes rfl rfl (by decide) ?_ (fun K' hK => ?_); (focus (go_simp; done)))); unfold opF; go_simp; (refine hK _ _ ?_); clear hK K') | (refine listF_no (b' := true) rfl rfl (by decide) ?_ ?_ ?_; (focus (go_simp; done)); (focus rfl)) | (refine listF_no (b' := false) rfl rfl (by decide) ?_ ?_ ?_; (focus (go_simp; done)); (focus rfl)) | (refine listF_nu rfl rfl (by decide) ?_ ?_; (focus (go_simp; done))) | (refine listF_nil ?_) | (refine region_F ?_) | (refine cond_F true ?_ ?_; (focus (go_simp; done)); simp only [if_true]) | (refine cond_F false ?_ ?_; (focus (go_simp; done)); simp only [Bool.false_eq_true, if_false]) | (with_reducible go_step))
    exact ret_F (.bool true) (res1_F Try.results13 (by decide) (by go_simp)) ⟨rfl, HB1.out.trans (hb9.mono HB1.out.size)⟩

end Go.Proofs.Ytbjgebbfachgfaa
