/- Day: the reference's. -/
import Derived.Test.YtbjgebbfachgfaacW35
import Derived.Test.YtbjgebbfachgfaacJ8
import Derived.Test.YtbjgebbfachgfaacW10
import Derived.Test.YtbjgebbfachgfaacW17
set_option linter.unusedVariables false
set_option linter.unusedSimpArgs false
set_option linter.unusedSectionVars false
set_option linter.all false
namespace Go.Proofs.Ytbjgebbfachgfaa
open Go.RowKit

/-- where the memory that a slice of the call's own lies in may have changed -/
structure GB (v : Value) (w0 w : World) : Prop where
  os : w.os = w0.os
  tape : w.tape = w0.tape
  output : w.output = w0.output
  size : w0.heap.size ≤ w.heap.size
  block : ∀ k, k < w0.heap.size → some k ≠ v.ownBlock → w.heap[k]? = w0.heap[k]?
theorem GB.of_grown {v : Value} {w0 w1 w : World} (hb : Below w0.heap.size w0 w1) (hg : w1.grownBy w v.ownBlock) : GB v w0 w :=
  ⟨hg.os.trans hb.os, hg.tape.trans hb.tape, hg.output.trans hb.output, Nat.le_trans hb.size hg.size, fun k hk hn => (hg.block k (Nat.lt_of_lt_of_le hk hb.size) hn).trans (hb.block k hk)⟩
theorem GB.cells {v : Value} {w0 w : World} (h : GB v w0 w) {b : Nat} {l : List Value} (k : Cells w0 b l) (hn : some b ≠ v.ownBlock) : Cells w b l := k.same (h.block b k.1 hn) h.size
theorem GB.low {v : Value} {w0 w : World} {N : Nat} (h : GB v w0 w) (hN : N ≤ w0.heap.size) (hv : ∀ k, v.ownBlock = some k → N ≤ k) : Below N w0 w :=
  ⟨h.os, h.tape, h.output, h.size, fun k hk => h.block k (by omega) (fun e => by have := hv k e.symm; omega)⟩

theorem Rd.old {α : Type} {f : α → List Value} {m : Nat} {w w' : World} {Bs : List Nat} {a : Option Addr} {l : List α} (h : Rd f m w a l) (ho : OldB Bs w.drew w') (hn : ∀ b, a = some b → b.block ∉ Bs) : Rd f m w' a l := by
  rcases h with h | ⟨b, off, ha, hlt, hc⟩
  · exact .inl h
  · exact .inr ⟨b, off, ha, Nat.lt_of_lt_of_le hlt ho.size, fun i x hi j v hj => (cellBk (ho.block b hlt (hn _ ha))).trans (hc i x hi j v hj)⟩
theorem Rd.gb {α : Type} {f : α → List Value} {m : Nat} {w w' : World} {v : Value} {a : Option Addr} {l : List α} (h : Rd f m w a l) (ho : GB v w w') (hn : ∀ b, a = some b → some b.block ≠ v.ownBlock) : Rd f m w' a l := by
  rcases h with h | ⟨b, off, ha, hlt, hc⟩
  · exact .inl h
  · exact .inr ⟨b, off, ha, Nat.lt_of_lt_of_le hlt ho.size, fun i x hi j v hj => (cellBk (ho.block b hlt (hn _ ha))).trans (hc i x hi j v hj)⟩
theorem Own.slice {α : Type} {f : α → List Value} {m : Nat} (hf : ∀ x, (f x).length = m) {T : TypeId} {base : Nat} {w : World} {v : Value} {l : List α} (h : Own f m T base w v l) :
    ∃ a c, v = .slice a l.length c ∧ Rd f m w a l ∧ ∀ b, a = some b → base ≤ b.block := by
  rcases Own.formN h (n := l.length) rfl with ⟨rfl, hl0, hk0⟩ | ⟨g, cap, rfl, hg1, hg2, _⟩
  · exact ⟨none, 0, by rw [hk0], by rw [hl0]; exact .inl rfl, fun b hb => by cases hb⟩
  · exact ⟨_, cap, rfl, Own.rd' hf h rfl, fun b hb => by cases hb; exact hg1⟩

theorem Cells.news {w : World} {X : Nat} {l : List Value} (h : Cells w X l) : ∀ j u, l[j]? = some u → w.cell? ((⟨X, 0, none⟩ : Addr).add j) = some u := by
  intro j u hu
  have hadd : (⟨X, 0, none⟩ : Addr).add j = ⟨X, j, none⟩ := by unfold Addr.add; split <;> simp_all
  rw [hadd]; exact h.2.1 j u hu
theorem Rd.setFar {α : Type} {f : α → List Value} {m : Nat} {w : World} {a : Option Addr} {l : List α} {Y o : Nat} {u : Value} (h : Rd f m w a l) (hn : ∀ b, a = some b → b.block ≠ Y) : Rd f m (w.setCell ⟨Y, o, none⟩ u) a l := by
  rcases h with h | ⟨b, off, ha, hlt, hc⟩
  · exact .inl h
  · exact .inr ⟨b, off, ha, by simpa using hlt, fun i x hi j v hj => (World.cell?_setCell_other _ _ _ _ (fun e => by cases e; exact hn _ ha rfl)).trans (hc i x hi j v hj)⟩
theorem spell_one (s : Spell) : ∀ u ∈ s.cs, u.oneCell' = true := by intro u hu; simp [Spell.cs] at hu; rcases hu with h | h | h | h <;> subst h <;> rfl

def DayRes (W : Work) (till : Int) (w : World) (e : Ending) (w' : World) : Prop := ∃ a c a' c', e = .returned (.tuple #[.slice a (day W till).1.length c, .agg #[.int .i64 (day W till).2.now, .slice a' (day W till).2.jobs.length c'], .int .i64 (dayErr W till)]) ∧
  RdSpells w' a (day W till).1 ∧ RdSts w' a' (day W till).2.jobs ∧ Below w.heap.size w w' ∧ (∀ b, a = some b → w.heap.size ≤ b.block) ∧ (∀ b, a' = some b → w.heap.size ≤ b.block)

set_option maxRecDepth 100000 in
set_option maxHeartbeats 20000000 in
theorem rDay_any (W : Work) (till : Int) (aj af : Option Addr) (cj cf : Nat) (w : World) (hW : WorkIn w W aj af) :
    Calls Try.prog 25 #[.agg #[.int .i64 W.rules.slice, .int .i64 W.rules.load, .int .i64 W.rules.dump, .int .i64 W.rules.patience, .int .i64 W.rules.rate, .slice aj W.jobs.length cj, .slice af W.faults.length cf], .int .i64 till] w (DayRes W till w) := by
  obtain ⟨i0, hi0, hz0, hz1, hz2⟩ := info_parts info_spell
  have HW := hid hW
  clear hW
  refine enter_F Try.func25 rfl Try.ntmps25 (by simp) ?_
  intro s hs
  have sl0 : s 0 = .agg #[.int .i64 W.rules.slice, .int .i64 W.rules.load, .int .i64 W.rules.dump, .int .i64 W.rules.patience, .int .i64 W.rules.rate, .slice aj W.jobs.length cj, .slice af W.faults.length cf] := hs 0 (by simp)
  have sl1 : s 1 = .int .i64 till := hs 1 (by simp)
  clear hs
  repeat (first | ((first | (refine listF_step rfl (fun K' hK => ?_)) | (refine listF_yes rfl rfl (by decide) ?_ (fun K' hK => ?_); (focus (go_simp; done)))); unfold opF; go_simp; (refine hK _ _ ?_); clear hK K') | (refine listF_no (b' := true) rfl rfl (by decide) ?_ ?_ ?_; (focus (go_simp; done)); (focus rfl)) | (refine listF_no (b' := false) rfl rfl (by decide) ?_ ?_ ?_; (focus (go_simp; done)); (focus rfl)) | (refine listF_nu rfl rfl (by decide) ?_ ?_; (focus (go_simp; done))) | (refine listF_nil ?_) | (refine region_F ?_) | (refine cond_F true ?_ ?_; (focus (go_simp; done)); simp only [if_true]) | (refine cond_F false ?_ ?_; (focus (go_simp; done)); simp only [Bool.false_eq_true, if_false]) | (with_reducible go_step))
  (refine listF_step rfl (fun K' hK => ?_); unfold opF; go_simp; refine (rcheck_any W aj af cj cf _ (HW.out.at (by repeat (first | (with_reducible exact Below.refl _ w) | (with_reducible refine bdrewN ?_ _) | (with_reducible refine Below.drew ?_) | (with_reducible refine Below.setCell ?_ (by first | omega | (simp; done) | (simp; omega)) _) | (with_reducible refine Below.alloc ?_ (by first | omega | (simp; done) | (simp; omega)) _))))).mono ?_; rintro e w2 ⟨rfl, hb2⟩; refine ⟨_, rfl, hK _ _ ?_⟩; clear hK K')
  have k0 : Cells w2 w.heap.size #[.int .i64 W.rules.slice, .int .i64 W.rules.load, .int .i64 W.rules.dump, .int .i64 W.rules.patience, .int .i64 W.rules.rate, .slice aj W.jobs.length cj, .slice af W.faults.length cf].toList := ((Cells.new rfl).up _).at hb2
  have k5 : Cells w2 (w.heap.size + 1) [.int .i64 0, .slice none 0 0] := (Cells.new (cs := #[.int .i64 0, .slice none 0 0]) (by first | omega | (simp; done) | (simp; omega))).at hb2
  have HB2 := hid (Below.trans (by repeat (first | (with_reducible exact Below.refl _ w) | (with_reducible refine bdrewN ?_ _) | (with_reducible refine Below.drew ?_) | (with_reducible refine Below.setCell ?_ (by first | omega | (simp; done) | (simp; omega)) _) | (with_reducible refine Below.alloc ?_ (by first | omega | (simp; done) | (simp; omega)) _))) (hb2.mono (by first | omega | (simp; done) | (simp; omega))) : Below w.heap.size w w2)
  have hs2 : w.heap.size + 1 < w2.heap.size := k5.1
  clear hb2
  by_cases he : W.err = 0
  · have he1 : ((check W).2.2 == 0) = true := by unfold Work.err at he; simp [he]
    have hc0 : (check W).2.2 = 0 := he
    have HK := hid (wok_of_err he)
    have He := hid he
    rw [hc0]
    clear he hc0
    rcases Bool.eq_false_or_eq_true (inb till 0 5000) with hin | hin
    · have hdE := hid (show dayErr W till = 0 by unfold dayErr; rw [if_pos He.out, if_pos hin])
      have Hin := hid hin
      have c00 := k0.cell 0 rfl
      have c01 := k0.cell 1 rfl
      have c02 := k0.cell 2 rfl
      have c03 := k0.cell 3 rfl
      have c04 := k0.cell 4 rfl
      have c05 := k0.cell 5 rfl
      have c06 := k0.cell 6 rfl
      have q0 := k0.1
      repeat (first | ((first | (refine listF_step rfl (fun K' hK => ?_)) | (refine listF_yes rfl rfl (by decide) ?_ (fun K' hK => ?_); (focus (go_simp; done)))); unfold opF; go_simp; (first | (refine hK _ _ ?_) | ((go_at_call 49; refine (refin_any _ _ _ _).mono ?_; rintro e w' ⟨rfl, rfl⟩); refine ⟨_, rfl, hK _ _ ?_⟩)); clear hK K') | (refine listF_no (b' := true) rfl rfl (by decide) ?_ ?_ ?_; (focus (go_simp; done)); (focus rfl)) | (refine listF_no (b' := false) rfl rfl (by decide) ?_ ?_ ?_; (focus (go_simp; done)); (focus rfl)) | (refine listF_nu rfl rfl (by decide) ?_ ?_; (focus (go_simp; done))) | (refine listF_nil ?_) | (refine region_F ?_) | (refine cond_F true ?_ ?_; (focus (go_simp; done)); simp only [if_true]) | (refine cond_F false ?_ ?_; (focus (go_simp; done)); simp only [Bool.false_eq_true, if_false]) | (with_reducible go_step))
      (refine listF_step rfl (fun K' hK => ?_); unfold opF; go_simp; refine (rbegin_any W aj af cj cf _ (HW.out.at HB2.out) HK.out.jl).mono ?_; rintro e w3 ⟨v0, rfl, ho, hb3⟩; refine ⟨_, rfl, hK _ _ ?_⟩; clear hK K')
      obtain ⟨a0, c0, rfl, hrd0, hfr0⟩ := Own.slice (f := St.cs) (m := 5) (fun _ => rfl) ho
      rw [List.length_map]
      have hfr : ∀ b, a0 = some b → w.heap.size + 1 < b.block := fun b hb => by have := hfr0 b hb; omega
      have Hfr := hid hfr
      clear hfr0 hfr
      replace k0 := k0.at hb3
      replace k5 := k5.at hb3
      have HB3 := hid (HB2.out.trans (hb3.mono HB2.out.size) : Below w.heap.size w w3)
      have hs3 : w.heap.size + 1 < w3.heap.size := k5.1
      clear ho hb3 HB2 hs2 c00 c01 c02 c03 c04 c05 c06 q0
      repeat (first | ((first | (refine listF_step rfl (fun K' hK => ?_)) | (refine listF_yes rfl rfl (by decide) ?_ (fun K' hK => ?_); (focus (go_simp; done)))); unfold opF; go_simp; (refine hK _ _ ?_); clear hK K') | (refine listF_no (b' := true) rfl rfl (by decide) ?_ ?_ ?_; (focus (go_simp; done)); (focus rfl)) | (refine listF_no (b' := false) rfl rfl (by decide) ?_ ?_ ?_; (focus (go_simp; done)); (focus rfl)) | (refine listF_nu rfl rfl (by decide) ?_ ?_; (focus (go_simp; done))) | (refine listF_nil ?_) | (refine region_F ?_) | (refine cond_F true ?_ ?_; (focus (go_simp; done)); simp only [if_true]) | (refine cond_F false ?_ ?_; (focus (go_simp; done)); simp only [Bool.false_eq_true, if_false]) | (with_reducible go_step))
      refine wp_absw ?_
      intro wl hwl
      have k11 : Cells wl w3.heap.size [.int .i64 0, .slice a0 W.jobs.length c0] := by rw [hwl]; exact Cells.new (cs := #[.int .i64 0, .slice a0 W.jobs.length c0]) rfl
      have hbl : Below w3.heap.size w3 wl := by rw [hwl]; exact (by repeat (first | (with_reducible exact Below.refl _ w3) | (with_reducible refine bdrewN ?_ _) | (with_reducible refine Below.drew ?_) | (with_reducible refine Below.setCell ?_ (by first | omega | (simp; done) | (simp; omega)) _) | (with_reducible refine Below.alloc ?_ (by first | omega | (simp; done) | (simp; omega)) _)))
      replace k0 := k0.at hbl
      replace k5 := k5.at hbl
      have hq0 : RdSts wl a0 (beginQ W).jobs := Rd.at hrd0 hbl
      have HBl := hid (HB3.out.trans (hbl.mono HB3.out.size) : Below w.heap.size w wl)
      have hsl : wl.heap.size = w3.heap.size + 1 := by rw [hwl]; simp
      clear hwl hbl hrd0 HB3
      (refine wp_abs ?_; intro s' hs'; have gl1 := congrFun hs' 1; simp only [updS_some, updS_none, Nat.reduceEqDiff, ↓reduceIte] at gl1; (try rw [sl1] at gl1); have gl2 := congrFun hs' 2; simp only [updS_some, updS_none, Nat.reduceEqDiff, ↓reduceIte] at gl2; (try rw [sl2] at gl2); have gl5 := congrFun hs' 5; simp only [updS_some, updS_none, Nat.reduceEqDiff, ↓reduceIte] at gl5; (try rw [sl5] at gl5); have gl10 := congrFun hs' 10; simp only [updS_some, updS_none, Nat.reduceEqDiff, ↓reduceIte] at gl10; (try rw [sl10] at gl10); have gl11 := congrFun hs' 11; simp only [updS_some, updS_none, Nat.reduceEqDiff, ↓reduceIte] at gl11; (try rw [sl11] at gl11); clear hs'; (try clear sl1); (try clear sl2); (try clear sl5); (try clear sl10); (try clear sl11); have sl1 := gl1; clear gl1; have sl2 := gl2; clear gl2; have sl5 := gl5; clear gl5; have sl10 := gl10; clear gl10; have sl11 := gl11; clear gl11)
      generalize w3.heap.size = B at *
      have hlen0 : W.jobs.length = (beginQ W).jobs.length := by simp [beginQ]
      have hDI := DayI.start (till := till) HK.out
      have ht := (inb_iff _ _ _).1 hin
      clear hin
      refine loop_F (n := 54) (fun m s wr => ∃ (lst : List Spell) (qc : Qu) (a : Option Addr) (c : Nat) (v : Value), DayI W till m lst qc ∧ s 1 = .int .i64 till ∧ s 2 = .pointer (some ⟨w.heap.size, 0, none⟩) ∧ s 5 = .pointer (some ⟨w.heap.size + 1, 0, none⟩) ∧ s 10 = v ∧ s 11 = .pointer (some ⟨B, 0, none⟩) ∧ Cells wr B [.int .i64 qc.now, .slice a qc.jobs.length c] ∧ RdSts wr a qc.jobs ∧ Hid (OwnSpells (B + 1) wr v lst) ∧ Below B wl wr ∧ Hid (∀ b, a = some b → w.heap.size + 1 < b.block)) (k0 := till.toNat) ⟨[], beginQ W, a0, c0, .slice none 0 0, hDI, sl1, sl2, sl5, sl10, sl11, by rw [← hlen0]; exact k11, hq0, hid (Own.nil _ _ _ _ _), Below.refl _ _, Hfr⟩ ?_
      clear sl1 sl2 sl5 sl10 sl11 k11 hq0 hDI hlen0
      rintro m s wr ⟨lst, qc, a, c, v, hDI, sl1, sl2, sl5, sl10, sl11, kQ, hq, hO, hB, hfr⟩
      have HBr := hid (HBl.out.trans (hB.mono (by omega)) : Below w.heap.size w wr)
      replace k0 := k0.low hB (by omega)
      replace k5 := k5.low hB (by omega)
      have hjl := HK.out.jl
      have hlen := hDI.ok.len
      have cQ0 := kQ.cell 0 rfl
      have cQ1 := kQ.cell 1 rfl
      have jQ := kQ.1
      have hlm : qc.jobs.length ≤ 9223372036854775807 := by omega
      have Hlen := hid hlen
      have Hsl := hid hsl
      have hsl' : wl.heap.size ≤ B + 1 := by omega
      have hsl'' : B < wl.heap.size := by omega
      clear hlen hsl
      rcases dec_or (qc.now < till) with t1 | t1
      · repeat (first | ((first | (refine listF_step rfl (fun K' hK => ?_)) | (refine listF_yes rfl rfl (by decide) ?_ (fun K' hK => ?_); (focus (go_simp; done)))); unfold opF; go_simp; (refine hK _ _ ?_); clear hK K') | (refine listF_no (b' := true) rfl rfl (by decide) ?_ ?_ ?_; (focus (go_simp; done)); (focus rfl)) | (refine listF_no (b' := false) rfl rfl (by decide) ?_ ?_ ?_; (focus (go_simp; done)); (focus rfl)) | (refine listF_nu rfl rfl (by decide) ?_ ?_; (focus (go_simp; done))) | (refine listF_nil ?_) | (refine region_F ?_) | (refine cond_F true ?_ ?_; (focus (go_simp; done)); simp only [if_true]) | (refine cond_F false ?_ ?_; (focus (go_simp; done)); simp only [Bool.false_eq_true, if_false]) | (with_reducible go_step))
        rcases Bool.eq_false_or_eq_true (waits qc.jobs) with hwt | hwt
        · (refine listF_yes rfl rfl (by decide) ?_ (fun K' hK => ?_); (focus (go_simp; done)); unfold opF; go_simp; refine (rwaits_any qc.now a c qc.jobs _ hlm hq).mono ?_; rintro e w4 ⟨rfl, hb4⟩; refine ⟨_, rfl, hK _ _ ?_⟩; clear hK K')
          obtain ⟨ix, hix, _⟩ := wait_ex hwt
          have hne : 0 < qc.jobs.length := by omega
          have hnow : qc.now < till := by simpa using t1
          obtain ⟨m', rfl, hDI'⟩ := hDI.next HK.out ht.2 hnow hwt
          have hO4 := hid (hO.out.at hb4)
          have hq4 : RdSts w4 a qc.jobs := Rd.at hq hb4
          have kQ4 := kQ.at hb4
          replace k0 := k0.at hb4
          replace k5 := k5.at hb4
          have HB4 := hid (HBr.out.trans (hb4.mono HBr.out.size) : Below w.heap.size w w4)
          have hB4 : Below B wl w4 := hB.trans (hb4.mono (by omega))
          have hQok := hDI.ok.q
          clear hb4 hq hO HBr kQ cQ0 cQ1 jQ hB
          have c00 := k0.cell 0 rfl
          have c01 := k0.cell 1 rfl
          have c02 := k0.cell 2 rfl
          have c03 := k0.cell 3 rfl
          have c04 := k0.cell 4 rfl
          have c05 := k0.cell 5 rfl
          have c06 := k0.cell 6 rfl
          have q0 := k0.1
          have cQ0 := kQ4.cell 0 rfl
          have cQ1 := kQ4.cell 1 rfl
          have jQ := kQ4.1
          repeat (first | ((first | (refine listF_step rfl (fun K' hK => ?_)) | (refine listF_yes rfl rfl (by decide) ?_ (fun K' hK => ?_); (focus (go_simp; done)))); unfold opF; go_simp; (refine hK _ _ ?_); clear hK K') | (refine listF_no (b' := true) rfl rfl (by decide) ?_ ?_ ?_; (focus (go_simp; done)); (focus rfl)) | (refine listF_no (b' := false) rfl rfl (by decide) ?_ ?_ ?_; (focus (go_simp; done)); (focus rfl)) | (refine listF_nu rfl rfl (by decide) ?_ ?_; (focus (go_simp; done))) | (refine listF_nil ?_) | (refine region_F ?_) | (refine cond_F true ?_ ?_; (focus (go_simp; done)); simp only [if_true]) | (refine cond_F false ?_ ?_; (focus (go_simp; done)); simp only [Bool.false_eq_true, if_false]) | (with_reducible go_step))
          (refine listF_step rfl (fun K' hK => ?_); unfold opF; go_simp; refine (rnext_any W qc aj af a cj cf c _ (HW.out.at HB4.out) hq4 HK.out hQok hne).mono ?_; rintro e w5 ⟨ga, ca, rfl, hga, hqa, hb5⟩; refine ⟨_, rfl, hK _ _ ?_⟩; clear hK K')
          have hO5 := hid (hO4.out.at hb5)
          have kQ5 := kQ4.at hb5
          replace k0 := k0.at hb5
          replace k5 := k5.at hb5
          have HB5 := hid (HB4.out.trans (hb5.mono HB4.out.size) : Below w.heap.size w w5)
          have hB5 : Below B wl w5 := hB4.trans (hb5.mono (by omega))
          have hs5 := hb5.size
          have hg4 : ∀ g, v.ownBlock = some g → B + 1 ≤ g ∧ g < w4.heap.size := fun g hg => World.ownsRow.lt hO4.out g hg
          have Hg4 := hid hg4
          clear hg4 hb5 hO4 kQ4 hq4 HB4 hB4 c00 c01 c02 c03 c04 c05 c06 q0 cQ0 cQ1 hQok hDI
          generalize nextStep W qc = ns at *
          obtain ⟨sp, qn⟩ := ns
          have jQ5 := kQ5.1
          repeat (first | ((first | (refine listF_step rfl (fun K' hK => ?_)) | (refine listF_yes rfl rfl (by decide) ?_ (fun K' hK => ?_); (focus (go_simp; done)))); unfold opF; go_simp; (refine hK _ _ ?_); clear hK K') | (refine listF_no (b' := true) rfl rfl (by decide) ?_ ?_ ?_; (focus (go_simp; done)); (focus rfl)) | (refine listF_no (b' := false) rfl rfl (by decide) ?_ ?_ ?_; (focus (go_simp; done)); (focus rfl)) | (refine listF_nu rfl rfl (by decide) ?_ ?_; (focus (go_simp; done))) | (refine listF_nil ?_) | (refine region_F ?_) | (refine cond_F true ?_ ?_; (focus (go_simp; done)); simp only [if_true]) | (refine cond_F false ?_ ?_; (focus (go_simp; done)); simp only [Bool.false_eq_true, if_false]) | (with_reducible go_step))
          refine wp_absw ?_
          intro wd hwd
          have kS : Cells wd w5.heap.size [.int .i64 sp.kind, .int .i64 sp.job, .int .i64 sp.from0, .int .i64 sp.until0] := by rw [hwd]; exact Cells.up (Cells.new (cs := #[.int .i64 sp.kind, .int .i64 sp.job, .int .i64 sp.from0, .int .i64 sp.until0]) rfl) _
          have kU : Cells wd (w5.heap.size + 1) [.int .i64 qn.now, .slice (some ⟨ga, 0, none⟩) qn.jobs.length ca] := by rw [hwd]; exact Cells.new (cs := #[.int .i64 qn.now, .slice (some ⟨ga, 0, none⟩) qn.jobs.length ca]) (by first | omega | (simp; done) | (simp; omega))
          have hbd : Below w5.heap.size w5 wd := by rw [hwd]; exact (by repeat (first | (with_reducible exact Below.refl _ w5) | (with_reducible refine bdrewN ?_ _) | (with_reducible refine Below.drew ?_) | (with_reducible refine Below.setCell ?_ (by first | omega | (simp; done) | (simp; omega)) _) | (with_reducible refine Below.alloc ?_ (by first | omega | (simp; done) | (simp; omega)) _)))
          have hO6 := hid (hO5.out.at hbd)
          have kQ6 := kQ5.at hbd
          replace k0 := k0.at hbd
          replace k5 := k5.at hbd
          replace hqa := Rd.at hqa hbd
          have HB6 := hid (HB5.out.trans (hbd.mono HB5.out.size) : Below w.heap.size w wd)
          have hB6 : Below B wl wd := hB5.trans (hbd.mono (by omega))
          have hgo : ∀ g, v.ownBlock = some g → B + 1 ≤ g ∧ g < w5.heap.size ∧ g < ga := fun g hg => by have := Hg4.out g hg; omega
          have Hgo := hid hgo
          have hs6 := hbd.size
          have jS := kS.1
          have jU := kU.1
          have jU' : w5.heap.size + 1 < wd.heap.size := jU
          clear hwd hbd hO5 kQ5 HB5 hB5 hgo Hg4 jQ5
          (refine wp_abs ?_; intro s' hs'; have gl1 := congrFun hs' 1; simp only [updS_some, updS_none, Nat.reduceEqDiff, ↓reduceIte] at gl1; (try rw [sl1] at gl1); have gl2 := congrFun hs' 2; simp only [updS_some, updS_none, Nat.reduceEqDiff, ↓reduceIte] at gl2; (try rw [sl2] at gl2); have gl5 := congrFun hs' 5; simp only [updS_some, updS_none, Nat.reduceEqDiff, ↓reduceIte] at gl5; (try rw [sl5] at gl5); have gl10 := congrFun hs' 10; simp only [updS_some, updS_none, Nat.reduceEqDiff, ↓reduceIte] at gl10; (try rw [sl10] at gl10); have gl11 := congrFun hs' 11; simp only [updS_some, updS_none, Nat.reduceEqDiff, ↓reduceIte] at gl11; (try rw [sl11] at gl11); have gl12 := congrFun hs' 12; simp only [updS_some, updS_none, Nat.reduceEqDiff, ↓reduceIte] at gl12; (try rw [sl12] at gl12); have gl13 := congrFun hs' 13; simp only [updS_some, updS_none, Nat.reduceEqDiff, ↓reduceIte] at gl13; (try rw [sl13] at gl13); clear hs'; (try clear sl1); (try clear sl2); (try clear sl5); (try clear sl10); (try clear sl11); (try clear sl12); (try clear sl13); have sl1 := gl1; clear gl1; have sl2 := gl2; clear gl2; have sl5 := gl5; clear gl5; have sl10 := gl10; clear gl10; have sl11 := gl11; clear gl11; have sl12 := gl12; clear gl12; have sl13 := gl13; clear gl13)
          have hll : lst.length + 1 ≤ 5000 := by have := hDI'.len; simp at this; omega
          have hnU : some (w5.heap.size + 1) ≠ v.ownBlock := fun e => by have := Hgo.out _ e.symm; omega
          have hnS : some w5.heap.size ≠ v.ownBlock := fun e => by have := Hgo.out _ e.symm; omega
          have hnB : some B ≠ v.ownBlock := fun e => by have := Hgo.out _ e.symm; omega
          have HnU := hid hnU
          have HnS := hid hnS
          have HnB := hid hnB
          clear hnU hnS hnB
          have jQ6 := kQ6.1
          refine regionI_F (fun L s w' => (s 1 = .int .i64 till ∧ s 2 = .pointer (some ⟨w.heap.size, 0, none⟩) ∧ s 5 = .pointer (some ⟨w.heap.size + 1, 0, none⟩) ∧ s 11 = .pointer (some ⟨B, 0, none⟩) ∧ s 12 = .pointer (some ⟨w5.heap.size, 0, none⟩) ∧ s 13 = .pointer (some ⟨w5.heap.size + 1, 0, none⟩)) ∧
              (L 4 = true → s 51 = .agg #[.int .i64 qn.now, .slice (some ⟨ga, 0, none⟩) qn.jobs.length ca]) ∧
              ((L 3 = false ∧ L 5 = false ∧ L 6 = false ∧ Below wd.heap.size wd w' ∧ s 10 = v ∧ (L 0 = true → s 47 = v) ∧ (L 1 = true → s 48 = .agg #[.int .i64 sp.kind, .int .i64 sp.job, .int .i64 sp.from0, .int .i64 sp.until0]) ∧ (L 2 = true → L 1 = true ∧ ∃ X, s 49 = .slice (some ⟨X, 0, none⟩) 1 1 ∧ Cells w' X sp.cs)) ∨
               (L 0 = true ∧ L 1 = true ∧ L 2 = true ∧ L 3 = true ∧ L 6 = false ∧ ∃ g' cap, s 50 = .slice (some ⟨g', 0, none⟩) (lst.length + 1) cap ∧ (L 5 = true → s 10 = .slice (some ⟨g', 0, none⟩) (lst.length + 1) cap) ∧ GB v wd w' ∧ OwnSpells (B + 1) w' (.slice (some ⟨g', 0, none⟩) (lst.length + 1) cap) (lst ++ [sp])) ∨
               (L 0 = true ∧ L 1 = true ∧ L 2 = true ∧ L 3 = true ∧ L 4 = true ∧ L 5 = true ∧ L 6 = true ∧ ∃ g' cap wz, s 10 = .slice (some ⟨g', 0, none⟩) (lst.length + 1) cap ∧ GB v wd wz ∧ OwnSpells (B + 1) wz (.slice (some ⟨g', 0, none⟩) (lst.length + 1) cap) (lst ++ [sp]) ∧ w' = (wz.setCell ⟨B, 0, none⟩ (.int .i64 qn.now)).setCell ⟨B, 1, none⟩ (.slice (some ⟨ga, 0, none⟩) qn.jobs.length ca)))) (by kernel_rfl) (by kernel_rfl) (by kernel_rfl) ?_ ?_ ⟨?_, ?_, ?_, ?_, ?_, ?_, ?_, trivial⟩
          · refine ⟨⟨?_, ?_, ?_, ?_, ?_, ?_⟩, by simp, .inl ⟨rfl, rfl, rfl, (Below.refl _ _).drew, ?_, by simp, by simp, by simp⟩⟩ <;> go_simp
          · rintro s w' ⟨⟨a1, a2, a3, a4, a5, a6⟩, _, ⟨h, _⟩ | ⟨_, _, _, _, h, _⟩ | ⟨_, _, _, _, _, _, _, g', cap, wz, e10, hgb, hown, rfl⟩⟩
            · simp at h
            · simp at h
            · have kQz := hgb.cells kQ6 HnB.out
              have hqz : RdSts wz (some ⟨ga, 0, none⟩) qn.jobs := hqa.gb hgb (fun b hb => by cases hb; intro e; have := (Hgo.out ga e.symm).2.2; omega)
              have hBz : Below B wl wz := hB6.trans (hgb.low (by omega) (fun k hk => by have := Hgo.out k hk; omega))
              repeat (first | ((first | (refine listF_step rfl (fun K' hK => ?_)) | (refine listF_yes rfl rfl (by decide) ?_ (fun K' hK => ?_); (focus (go_simp; done)))); unfold opF; go_simp; (refine hK _ _ ?_); clear hK K') | (refine listF_no (b' := true) rfl rfl (by decide) ?_ ?_ ?_; (focus (go_simp; done)); (focus rfl)) | (refine listF_no (b' := false) rfl rfl (by decide) ?_ ?_ ?_; (focus (go_simp; done)); (focus rfl)) | (refine listF_nu rfl rfl (by decide) ?_ ?_; (focus (go_simp; done))) | (refine listF_nil ?_) | (refine region_F ?_) | (refine cond_F true ?_ ?_; (focus (go_simp; done)); simp only [if_true]) | (refine cond_F false ?_ ?_; (focus (go_simp; done)); simp only [Bool.false_eq_true, if_false]) | (with_reducible go_step))
              refine ⟨m', s, rfl, by omega, lst ++ [sp], qn, some ⟨ga, 0, none⟩, ca, _, hDI', a1, a2, a3, e10, a4, (by apply Cells.conv; (focus (repeat (first | (with_reducible exact kQz) | (with_reducible apply Cells.set) | ((with_reducible apply Cells.setFar); case hn => omega) | (with_reducible apply Cells.up) | (with_reducible apply Cells.drew)))); rfl), (hqz.setFar (fun b hb => by cases hb; show ga ≠ B; omega)).setFar (fun b hb => by cases hb; show ga ≠ B; omega), hid ((hown.setCell (by simp) _).setCell (by simp) _), (by repeat (first | (with_reducible exact hBz) | (with_reducible refine bdrewN ?_ _) | (with_reducible refine Below.drew ?_) | (with_reducible refine Below.setCell ?_ (by first | omega | (simp; done) | (simp; omega)) _) | (with_reducible refine Below.alloc ?_ (by first | omega | (simp; done) | (simp; omega)) _))), hid (fun b hb => by cases hb; show w.heap.size + 1 < ga; omega)⟩
          · rintro L s w' hL hd ⟨⟨a1, a2, a3, a4, a5, a6⟩, h4, ⟨n3, n5, n6, hBw, a10, h0, h1, h2⟩ | ⟨b0, _⟩ | ⟨b0, _⟩⟩ K hK
            · clear hd
              rw [if_pos (by rfl)]
              unfold opF
              go_simp
              exact hK _ _ ⟨⟨by simpa [upd, updS] using a1, by simpa [upd, updS] using a2, by simpa [upd, updS] using a3, by simpa [upd, updS] using a4, by simpa [upd, updS] using a5, by simpa [upd, updS] using a6⟩, by simpa [upd, updS] using h4, .inl ⟨by simpa [upd] using n3, by simpa [upd] using n5, by simpa [upd] using n6, hBw, by simpa [upd, updS] using a10, by simp [upd, updS], by simpa [upd, updS] using h1, by simpa [upd, updS] using h2⟩⟩
            · rw [b0] at hL; cases hL
            · rw [b0] at hL; cases hL
          · rintro L s w' hL hd ⟨⟨a1, a2, a3, a4, a5, a6⟩, h4, ⟨n3, n5, n6, hBw, a10, h0, h1, h2⟩ | ⟨_, b1, _⟩ | ⟨_, b1, _⟩⟩ K hK
            · clear hd
              rw [if_pos (by rfl)]
              unfold opF
              have kS' := kS.at hBw
              have e0 := kS'.cell 0 rfl
              have e1 := kS'.cell 1 rfl
              have e2 := kS'.cell 2 rfl
              have e3 := kS'.cell 3 rfl
              go_simp
              exact hK _ _ ⟨⟨by simpa [upd, updS] using a1, by simpa [upd, updS] using a2, by simpa [upd, updS] using a3, by simpa [upd, updS] using a4, by simpa [upd, updS] using a5, by simpa [upd, updS] using a6⟩, by simpa [upd, updS] using h4, .inl ⟨by simpa [upd] using n3, by simpa [upd] using n5, by simpa [upd] using n6, hBw, by simpa [upd, updS] using a10, by simpa [upd, updS] using h0, by simp [upd, updS], fun h => ⟨rfl, by have := (h2 (by simpa [upd] using h)).2; simpa [updS] using this⟩⟩⟩
            · rw [b1] at hL; cases hL
            · rw [b1] at hL; cases hL
          · rintro L s w' hL hd ⟨⟨a1, a2, a3, a4, a5, a6⟩, h4, ⟨n3, n5, n6, hBw, a10, h0, h1, h2⟩ | ⟨_, _, b2, _⟩ | ⟨_, _, b2, _⟩⟩ K hK
            · have l1 := hd ⟨1, .data⟩ (by simp) rfl
              have v1 := h1 l1
              clear hd
              rw [if_pos (by rfl)]
              unfold opF
              go_simp
              refine hK _ _ ⟨⟨by simpa [upd, updS] using a1, by simpa [upd, updS] using a2, by simpa [upd, updS] using a3, by simpa [upd, updS] using a4, by simpa [upd, updS] using a5, by simpa [upd, updS] using a6⟩, by simpa [upd, updS] using h4, .inl ⟨by simpa [upd] using n3, by simpa [upd] using n5, by simpa [upd] using n6, hBw.alloc hBw.size _, by simpa [upd, updS] using a10, by simpa [upd, updS] using h0, by simpa [upd, updS] using h1, fun _ => ⟨by simpa [upd] using l1, w'.heap.size, by simp [updS], ?_⟩⟩⟩
              exact Cells.new (cs := #[.int .i64 sp.kind, .int .i64 sp.job, .int .i64 sp.from0, .int .i64 sp.until0]) rfl
            · rw [b2] at hL; cases hL
            · rw [b2] at hL; cases hL
          · rintro L s w' hL hd ⟨⟨a1, a2, a3, a4, a5, a6⟩, h4, ⟨n3, n5, n6, hBw, a10, h0, h1, h2⟩ | ⟨_, _, _, b3, _⟩ | ⟨_, _, _, b3, _⟩⟩ K hK
            · have l0 := hd ⟨0, .data⟩ (by simp) rfl
              have l2 := hd ⟨2, .data⟩ (by simp) rfl
              have v0 := h0 l0
              obtain ⟨l1, X, v2, kX⟩ := h2 l2
              have hOw := hO6.out.at hBw
              clear hd
              rw [if_pos (by rfl)]
              refine opF_of_wp (d := 50) rfl (by decide) (fun K1 Q1 hK1 => wp_append_own _ _ _ 44 rfl (B + 1) 40 i0 _ 4 32 Try.underlying44 hi0 hz0 hz1 hz2 rfl (by decide) v lst.length (lst.flatMap Spell.cs) (by rw [mkA_eval]; go_simp) hOw ⟨X, 0, none⟩ 1 1 sp.cs (by rw [mkA_eval]; go_simp) rfl kX.news (spell_one sp) (by unfold maxLen; omega) (by omega) (by have := hBw.size; omega) (fun v5 w6 ho5 hg5 _ => hK1 _ _ (hK _ _ ?_)))
              obtain ⟨g', cap, rfl⟩ := own_pos' ho5 (by omega)
              refine ⟨⟨by simpa [upd, updS] using a1, by simpa [upd, updS] using a2, by simpa [upd, updS] using a3, by simpa [upd, updS] using a4, by simpa [upd, updS] using a5, by simpa [upd, updS] using a6⟩, by simpa [upd, updS] using h4, .inr (.inl ⟨by simpa [upd] using l0, by simpa [upd] using l1, by simpa [upd] using l2, by simp [upd], by simpa [upd] using n6, g', cap, by simp [updS], fun h => by simp [upd, n5] at h, GB.of_grown hBw hg5, ?_⟩)⟩
              unfold OwnSpells Own
              simpa using ho5
            · rw [b3] at hL; cases hL
            · rw [b3] at hL; cases hL
          · rintro L s w' hL hd ⟨⟨a1, a2, a3, a4, a5, a6⟩, h4, ⟨n3, n5, n6, hBw, a10, h0, h1, h2⟩ | ⟨b0, b1, b2, b3, b6, g', cap, e50, e10, hgb, hown⟩ | ⟨_, _, _, _, b4, _⟩⟩ K hK
            · clear hd
              rw [if_pos (by rfl)]
              unfold opF
              have kU' := kU.at hBw
              have e0 := kU'.cell 0 rfl
              have e1 := kU'.cell 1 rfl
              go_simp
              exact hK _ _ ⟨⟨by simpa [upd, updS] using a1, by simpa [upd, updS] using a2, by simpa [upd, updS] using a3, by simpa [upd, updS] using a4, by simpa [upd, updS] using a5, by simpa [upd, updS] using a6⟩, by simp [upd, updS], .inl ⟨by simpa [upd] using n3, by simpa [upd] using n5, by simpa [upd] using n6, hBw, by simpa [upd, updS] using a10, by simpa [upd, updS] using h0, by simpa [upd, updS] using h1, by simpa [upd, updS] using h2⟩⟩
            · clear hd
              rw [if_pos (by rfl)]
              unfold opF
              have kU' := hgb.cells kU HnU.out
              have e0 := kU'.cell 0 rfl
              have e1 := kU'.cell 1 rfl
              have E50 := hid e50
              clear e50
              go_simp
              exact hK _ _ ⟨⟨by simpa [upd, updS] using a1, by simpa [upd, updS] using a2, by simpa [upd, updS] using a3, by simpa [upd, updS] using a4, by simpa [upd, updS] using a5, by simpa [upd, updS] using a6⟩, by simp [upd, updS], .inr (.inl ⟨by simpa [upd] using b0, by simpa [upd] using b1, by simpa [upd] using b2, by simpa [upd] using b3, by simpa [upd] using b6, g', cap, by simpa [updS] using E50.out, by simpa [upd, updS] using e10, hgb, hown⟩)⟩
            · rw [b4] at hL; cases hL
          · rintro L s w' hL hd ⟨⟨a1, a2, a3, a4, a5, a6⟩, h4, ⟨n3, n5, n6, hBw, a10, h0, h1, h2⟩ | ⟨b0, b1, b2, b3, b6, g', cap, e50, e10, hgb, hown⟩ | ⟨_, _, _, _, _, b5, _⟩⟩ K hK
            · have l3 := hd ⟨3, .data⟩ (by simp) rfl
              rw [n3] at l3; cases l3
            · clear hd
              rw [if_pos (by rfl)]
              unfold opF
              go_simp
              exact hK _ _ ⟨⟨by simpa [upd, updS] using a1, by simpa [upd, updS] using a2, by simpa [upd, updS] using a3, by simpa [upd, updS] using a4, by simpa [upd, updS] using a5, by simpa [upd, updS] using a6⟩, by simpa [upd, updS] using h4, .inr (.inl ⟨by simpa [upd] using b0, by simpa [upd] using b1, by simpa [upd] using b2, by simpa [upd] using b3, by simpa [upd] using b6, g', cap, by simpa [updS] using e50, by simp [upd, updS], hgb, hown⟩)⟩
            · rw [b5] at hL; cases hL
          · rintro L s w' hL hd ⟨⟨a1, a2, a3, a4, a5, a6⟩, h4, ⟨n3, n5, n6, hBw, a10, h0, h1, h2⟩ | ⟨b0, b1, b2, b3, b6, g', cap, e50, e10, hgb, hown⟩ | ⟨_, _, _, _, _, _, b6, _⟩⟩ K hK
            · have l5 := hd ⟨5, .chain⟩ (by simp) rfl
              rw [n5] at l5; cases l5
            · have l4 := hd ⟨4, .data⟩ (by simp) rfl
              have l5 := hd ⟨5, .chain⟩ (by simp) rfl
              have v51 := h4 l4
              have kB := hgb.cells kQ6 HnB.out
              have e0 := kB.cell 0 rfl
              have e1 := kB.cell 1 rfl
              have ez := kB.2.2
              have es := kB.1
              have E10 := hid (e10 l5)
              clear hd e50 e10
              rw [if_pos (by rfl)]
              unfold opF
              go_simp
              exact hK undef _ ⟨⟨by simpa [upd, updS] using a1, by simpa [upd, updS] using a2, by simpa [upd, updS] using a3, by simpa [upd, updS] using a4, by simpa [upd, updS] using a5, by simpa [upd, updS] using a6⟩, by simpa [upd, updS] using h4, .inr (.inr ⟨by simpa [upd] using b0, by simpa [upd] using b1, by simpa [upd] using b2, by simpa [upd] using b3, by simpa [upd] using l4, by simpa [upd] using l5, by simp [upd], g', cap, w', by simpa [updS] using E10.out, hgb, hown, rfl⟩)⟩
            · rw [b6] at hL; cases hL
        · (refine listF_yes rfl rfl (by decide) ?_ (fun K' hK => ?_); (focus (go_simp; done)); unfold opF; go_simp; refine (rwaits_any qc.now a c qc.jobs _ hlm hq).mono ?_; rintro e w4 ⟨rfl, hb4⟩; refine ⟨_, rfl, hK _ _ ?_⟩; clear hK K')
          have kQ4 := kQ.at hb4
          replace hq : RdSts w4 a qc.jobs := Rd.at hq hb4
          replace hO := hid (hO.out.at hb4)
          replace k0 := k0.at hb4
          replace k5 := k5.at hb4
          replace HBr := hid (HBr.out.trans (hb4.mono HBr.out.size) : Below w.heap.size w w4)
          clear cQ0 cQ1 jQ hb4 kQ
          have cQ0 := kQ4.cell 0 rfl
          have cQ1 := kQ4.cell 1 rfl
          have jQ := kQ4.1
          have hdl := hDI.done (by rw [hwt]; simp)
          have Hday := hid (show day W till = (lst, qc) by unfold day; rw [if_pos hdE.out]; exact hdl)
          clear hdl
          repeat (first | ((first | (refine listF_step rfl (fun K' hK => ?_)) | (refine listF_yes rfl rfl (by decide) ?_ (fun K' hK => ?_); (focus (go_simp; done)))); unfold opF; go_simp; (refine hK _ _ ?_); clear hK K') | (refine listF_no (b' := true) rfl rfl (by decide) ?_ ?_ ?_; (focus (go_simp; done)); (focus rfl)) | (refine listF_no (b' := false) rfl rfl (by decide) ?_ ?_ ?_; (focus (go_simp; done)); (focus rfl)) | (refine listF_nu rfl rfl (by decide) ?_ ?_; (focus (go_simp; done))) | (refine listF_nil ?_) | (refine region_F ?_) | (refine cond_F true ?_ ?_; (focus (go_simp; done)); simp only [if_true]) | (refine cond_F false ?_ ?_; (focus (go_simp; done)); simp only [Bool.false_eq_true, if_false]) | (with_reducible go_step))
          (refine wp_abs ?_; intro s' hs'; have gl1 := congrFun hs' 1; simp only [updS_some, updS_none, Nat.reduceEqDiff, ↓reduceIte] at gl1; (try rw [sl1] at gl1); have gl2 := congrFun hs' 2; simp only [updS_some, updS_none, Nat.reduceEqDiff, ↓reduceIte] at gl2; (try rw [sl2] at gl2); have gl5 := congrFun hs' 5; simp only [updS_some, updS_none, Nat.reduceEqDiff, ↓reduceIte] at gl5; (try rw [sl5] at gl5); have gl10 := congrFun hs' 10; simp only [updS_some, updS_none, Nat.reduceEqDiff, ↓reduceIte] at gl10; (try rw [sl10] at gl10); have gl11 := congrFun hs' 11; simp only [updS_some, updS_none, Nat.reduceEqDiff, ↓reduceIte] at gl11; (try rw [sl11] at gl11); clear hs'; (try clear sl1); (try clear sl2); (try clear sl5); (try clear sl10); (try clear sl11); have sl1 := gl1; clear gl1; have sl2 := gl2; clear gl2; have sl5 := gl5; clear gl5; have sl10 := gl10; clear gl10; have sl11 := gl11; clear gl11)
          have mB : ¬ B = w.heap.size + 1 := by omega
          refine regionR_F [(w.heap.size + 1)] [[.int .i64 0, .slice none 0 0]] [5] [.q [], .q [], .q [], .st 5, .q []] [?v1_0, ?v1_1, ?v1_2, fun _ => undef, ?v1_4] [fun _ => [], fun _ => [], fun _ => [], ?c1_3, fun _ => []] (by kernel_rfl) (by kernel_rfl) (by kernel_rfl) (by kernel_rfl) (by kernel_rfl) (by first | exact List.nodup_nil | exact List.nodup_singleton _ | (simp; done) | (simp; omega)) (bc_cons (by repeat (first | (with_reducible exact k5) | (with_reducible refine Cells.drew ?_) | (with_reducible refine Cells.up ?_ _) | (with_reducible refine Cells.setFar ?_ (by omega)))) bc_nil) ?walk1 ?dep1
          case' walk1 =>
            refine walkR_q (by rfl) (fun X hX wq hwq hrq => ?_) ?_
            · obtain ⟨hcq, hfq⟩ := hwq.b1
              clear hrq
              go_simp
              (first | rfl | exact ⟨rfl, rfl⟩)
            refine walkR_q (by rfl) (fun X hX wq hwq hrq => ?_) ?_
            · obtain ⟨hcq, hfq⟩ := hwq.b1
              clear hrq
              go_simp
              (first | rfl | exact ⟨rfl, rfl⟩)
            refine walkR_q (by rfl) (fun X hX wq hwq hrq => ?_) ?_
            · obtain ⟨hcq, hfq⟩ := hwq.b1
              clear hrq
              go_simp
              (first | rfl | exact ⟨rfl, rfl⟩)
            refine walkR_st (by rfl) (fun X hX wq hwq hkq => ?_) ?_
            · rw [show X 5 = (w.heap.size + 1) from hX.at0 0 _ rfl] at hkq ⊢
              replace hkq : Cells wq (w.heap.size + 1) [.int .i64 0, .slice none 0 0] := hkq
              have hks := hkq.1
              have hkz := hkq.2.2
              have hk0 := hkq.cell 0 rfl
              have hk1 := hkq.cell 1 rfl
              go_simp
              (first | ((with_reducible refine writeB_mk (Cells.set hkq) ?_ ?_); (focus (repeat (first | (with_reducible exact Only.refl _ _) | (with_reducible refine Only.set ?_)))); rfl) | ((with_reducible refine writeB_mk (Cells.set (Cells.set hkq)) ?_ ?_); (focus (repeat (first | (with_reducible exact Only.refl _ _) | (with_reducible refine Only.set ?_)))); rfl) | ((with_reducible refine writeB_mk (Cells.set (Cells.set (Cells.set hkq))) ?_ ?_); (focus (repeat (first | (with_reducible exact Only.refl _ _) | (with_reducible refine Only.set ?_)))); rfl) | ((with_reducible refine writeB_mk (Cells.set (Cells.set (Cells.set (Cells.set hkq)))) ?_ ?_); (focus (repeat (first | (with_reducible exact Only.refl _ _) | (with_reducible refine Only.set ?_)))); rfl) | ((with_reducible refine writeB_mk (Cells.set (Cells.set (Cells.set (Cells.set (Cells.set hkq))))) ?_ ?_); (focus (repeat (first | (with_reducible exact Only.refl _ _) | (with_reducible refine Only.set ?_)))); rfl) | ((with_reducible refine writeB_mk (Cells.set (Cells.set (Cells.set (Cells.set (Cells.set (Cells.set hkq)))))) ?_ ?_); (focus (repeat (first | (with_reducible exact Only.refl _ _) | (with_reducible refine Only.set ?_)))); rfl) | ((with_reducible refine writeB_mk (Cells.set (Cells.set (Cells.set (Cells.set (Cells.set (Cells.set (Cells.set hkq))))))) ?_ ?_); (focus (repeat (first | (with_reducible exact Only.refl _ _) | (with_reducible refine Only.set ?_)))); rfl) | ((with_reducible refine writeB_mk (Cells.set (Cells.set (Cells.set (Cells.set (Cells.set (Cells.set (Cells.set (Cells.set hkq)))))))) ?_ ?_); (focus (repeat (first | (with_reducible exact Only.refl _ _) | (with_reducible refine Only.set ?_)))); rfl))
            refine walkR_q (by rfl) (fun X hX wq hwq hrq => ?_) ?_
            · obtain ⟨hcq, hfq⟩ := hwq.b1
              clear hrq
              go_simp
              (first | rfl | exact ⟨rfl, rfl⟩)
            refine walkR_nil (fun X hX wz hwz hcz => ?_)
            have kz0 := hcz 5 (by simp)
            rw [show X 5 = (w.heap.size + 1) from hX.at0 0 _ rfl] at kz0
            simp only [updC_some, updC_none, Nat.reduceEqDiff, ↓reduceIte] at kz0
            clear hX hcz
            (try clear X)
          case dep1 =>
            refine depR_cons (fun X X' h => ?_) ?_
            · (first | exact ⟨rfl, rfl⟩)
            refine depR_cons (fun X X' h => ?_) ?_
            · (first | exact ⟨rfl, rfl⟩)
            refine depR_cons (fun X X' h => ?_) ?_
            · (first | exact ⟨rfl, rfl⟩)
            refine depR_cons (fun X X' h => ?_) ?_
            · (first | exact ⟨rfl, rfl⟩)
            refine depR_cons (fun X X' h => ?_) ?_
            · (first | exact ⟨rfl, rfl⟩)
            exact depR_nil
          have hO2 : OwnSpells (B + 1) wz v lst := hO.out.kept (fun g hg => hwz.block g (by have := World.ownsRow.lt hO.out g hg; exact this.2) (by have := World.ownsRow.lt hO.out g hg; simp; omega))
          obtain ⟨av, cv, rfl, hrd, hav⟩ := Own.slice (f := Spell.cs) (m := 4) (fun _ => rfl) hO2
          repeat (first | ((first | (refine listF_step rfl (fun K' hK => ?_)) | (refine listF_yes rfl rfl (by decide) ?_ (fun K' hK => ?_); (focus (go_simp; done)))); unfold opF; go_simp; (refine hK _ _ ?_); clear hK K') | (refine listF_no (b' := true) rfl rfl (by decide) ?_ ?_ ?_; (focus (go_simp; done)); (focus rfl)) | (refine listF_no (b' := false) rfl rfl (by decide) ?_ ?_ ?_; (focus (go_simp; done)); (focus rfl)) | (refine listF_nu rfl rfl (by decide) ?_ ?_; (focus (go_simp; done))) | (refine listF_nil ?_) | (refine region_F ?_) | (refine cond_F true ?_ ?_; (focus (go_simp; done)); simp only [if_true]) | (refine cond_F false ?_ ?_; (focus (go_simp; done)); simp only [Bool.false_eq_true, if_false]) | (with_reducible go_step))
          refine ret_F (.tuple #[.slice av lst.length cv, .agg #[.int .i64 qc.now, .slice a qc.jobs.length c], .int .i64 0]) (res_tct (ad := ⟨w.heap.size + 1, 0, none⟩) Try.results25 ((getD_F (by simp)).trans (by go_simp)) ((getD_F (by simp)).trans (by go_simp)) (load_qu (kz0.cell 0 rfl) (kz0.cell 1 rfl)) ((getD_F (by simp)).trans (by go_simp))) ?_
          refine ⟨av, cv, a, c, by rw [Hday.out, hdE.out], by rw [Hday.out]; exact hrd, ?_, ?_, fun b hb => by have := hav b hb; omega, fun b hb => by have := hfr.out b hb; omega⟩
          · rw [Hday.out]; exact hq.old hwz (fun b hb => by have := hfr.out b hb; simp; omega)
          · exact HBr.out.trans (hwz.low (N := w.heap.size) (by have := k5.1; omega) (by simp))
      · have hdl := hDI.done (by rw [t1]; rfl)
        have Hday := hid (show day W till = (lst, qc) by unfold day; rw [if_pos hdE.out]; exact hdl)
        clear hdl
        repeat (first | ((first | (refine listF_step rfl (fun K' hK => ?_)) | (refine listF_yes rfl rfl (by decide) ?_ (fun K' hK => ?_); (focus (go_simp; done)))); unfold opF; go_simp; (refine hK _ _ ?_); clear hK K') | (refine listF_no (b' := true) rfl rfl (by decide) ?_ ?_ ?_; (focus (go_simp; done)); (focus rfl)) | (refine listF_no (b' := false) rfl rfl (by decide) ?_ ?_ ?_; (focus (go_simp; done)); (focus rfl)) | (refine listF_nu rfl rfl (by decide) ?_ ?_; (focus (go_simp; done))) | (refine listF_nil ?_) | (refine region_F ?_) | (refine cond_F true ?_ ?_; (focus (go_simp; done)); simp only [if_true]) | (refine cond_F false ?_ ?_; (focus (go_simp; done)); simp only [Bool.false_eq_true, if_false]) | (with_reducible go_step))
        (refine wp_abs ?_; intro s' hs'; have gl1 := congrFun hs' 1; simp only [updS_some, updS_none, Nat.reduceEqDiff, ↓reduceIte] at gl1; (try rw [sl1] at gl1); have gl2 := congrFun hs' 2; simp only [updS_some, updS_none, Nat.reduceEqDiff, ↓reduceIte] at gl2; (try rw [sl2] at gl2); have gl5 := congrFun hs' 5; simp only [updS_some, updS_none, Nat.reduceEqDiff, ↓reduceIte] at gl5; (try rw [sl5] at gl5); have gl10 := congrFun hs' 10; simp only [updS_some, updS_none, Nat.reduceEqDiff, ↓reduceIte] at gl10; (try rw [sl10] at gl10); have gl11 := congrFun hs' 11; simp only [updS_some, updS_none, Nat.reduceEqDiff, ↓reduceIte] at gl11; (try rw [sl11] at gl11); clear hs'; (try clear sl1); (try clear sl2); (try clear sl5); (try clear sl10); (try clear sl11); have sl1 := gl1; clear gl1; have sl2 := gl2; clear gl2; have sl5 := gl5; clear gl5; have sl10 := gl10; clear gl10; have sl11 := gl11; clear gl11)
        have mB : ¬ B = w.heap.size + 1 := by omega
        refine regionR_F [(w.heap.size + 1)] [[.int .i64 0, .slice none 0 0]] [5] [.q [], .q [], .q [], .st 5, .q []] [?v2_0, ?v2_1, ?v2_2, fun _ => undef, ?v2_4] [fun _ => [], fun _ => [], fun _ => [], ?c2_3, fun _ => []] (by kernel_rfl) (by kernel_rfl) (by kernel_rfl) (by kernel_rfl) (by kernel_rfl) (by first | exact List.nodup_nil | exact List.nodup_singleton _ | (simp; done) | (simp; omega)) (bc_cons (by repeat (first | (with_reducible exact k5) | (with_reducible refine Cells.drew ?_) | (with_reducible refine Cells.up ?_ _) | (with_reducible refine Cells.setFar ?_ (by omega)))) bc_nil) ?walk2 ?dep2
        case' walk2 =>
          refine walkR_q (by rfl) (fun X hX wq hwq hrq => ?_) ?_
          · obtain ⟨hcq, hfq⟩ := hwq.b1
            clear hrq
            go_simp
            (first | rfl | exact ⟨rfl, rfl⟩)
          refine walkR_q (by rfl) (fun X hX wq hwq hrq => ?_) ?_
          · obtain ⟨hcq, hfq⟩ := hwq.b1
            clear hrq
            go_simp
            (first | rfl | exact ⟨rfl, rfl⟩)
          refine walkR_q (by rfl) (fun X hX wq hwq hrq => ?_) ?_
          · obtain ⟨hcq, hfq⟩ := hwq.b1
            clear hrq
            go_simp
            (first | rfl | exact ⟨rfl, rfl⟩)
          refine walkR_st (by rfl) (fun X hX wq hwq hkq => ?_) ?_
          · rw [show X 5 = (w.heap.size + 1) from hX.at0 0 _ rfl] at hkq ⊢
            replace hkq : Cells wq (w.heap.size + 1) [.int .i64 0, .slice none 0 0] := hkq
            have hks := hkq.1
            have hkz := hkq.2.2
            have hk0 := hkq.cell 0 rfl
            have hk1 := hkq.cell 1 rfl
            go_simp
            (first | ((with_reducible refine writeB_mk (Cells.set hkq) ?_ ?_); (focus (repeat (first | (with_reducible exact Only.refl _ _) | (with_reducible refine Only.set ?_)))); rfl) | ((with_reducible refine writeB_mk (Cells.set (Cells.set hkq)) ?_ ?_); (focus (repeat (first | (with_reducible exact Only.refl _ _) | (with_reducible refine Only.set ?_)))); rfl) | ((with_reducible refine writeB_mk (Cells.set (Cells.set (Cells.set hkq))) ?_ ?_); (focus (repeat (first | (with_reducible exact Only.refl _ _) | (with_reducible refine Only.set ?_)))); rfl) | ((with_reducible refine writeB_mk (Cells.set (Cells.set (Cells.set (Cells.set hkq)))) ?_ ?_); (focus (repeat (first | (with_reducible exact Only.refl _ _) | (with_reducible refine Only.set ?_)))); rfl) | ((with_reducible refine writeB_mk (Cells.set (Cells.set (Cells.set (Cells.set (Cells.set hkq))))) ?_ ?_); (focus (repeat (first | (with_reducible exact Only.refl _ _) | (with_reducible refine Only.set ?_)))); rfl) | ((with_reducible refine writeB_mk (Cells.set (Cells.set (Cells.set (Cells.set (Cells.set (Cells.set hkq)))))) ?_ ?_); (focus (repeat (first | (with_reducible exact Only.refl _ _) | (with_reducible refine Only.set ?_)))); rfl) | ((with_reducible refine writeB_mk (Cells.set (Cells.set (Cells.set (Cells.set (Cells.set (Cells.set (Cells.set hkq))))))) ?_ ?_); (focus (repeat (first | (with_reducible exact Only.refl _ _) | (with_reducible refine Only.set ?_)))); rfl) | ((with_reducible refine writeB_mk (Cells.set (Cells.set (Cells.set (Cells.set (Cells.set (Cells.set (Cells.set (Cells.set hkq)))))))) ?_ ?_); (focus (repeat (first | (with_reducible exact Only.refl _ _) | (with_reducible refine Only.set ?_)))); rfl))
          refine walkR_q (by rfl) (fun X hX wq hwq hrq => ?_) ?_
          · obtain ⟨hcq, hfq⟩ := hwq.b1
            clear hrq
            go_simp
            (first | rfl | exact ⟨rfl, rfl⟩)
          refine walkR_nil (fun X hX wz hwz hcz => ?_)
          have kz0 := hcz 5 (by simp)
          rw [show X 5 = (w.heap.size + 1) from hX.at0 0 _ rfl] at kz0
          simp only [updC_some, updC_none, Nat.reduceEqDiff, ↓reduceIte] at kz0
          clear hX hcz
          (try clear X)
        case dep2 =>
          refine depR_cons (fun X X' h => ?_) ?_
          · (first | exact ⟨rfl, rfl⟩)
          refine depR_cons (fun X X' h => ?_) ?_
          · (first | exact ⟨rfl, rfl⟩)
          refine depR_cons (fun X X' h => ?_) ?_
          · (first | exact ⟨rfl, rfl⟩)
          refine depR_cons (fun X X' h => ?_) ?_
          · (first | exact ⟨rfl, rfl⟩)
          refine depR_cons (fun X X' h => ?_) ?_
          · (first | exact ⟨rfl, rfl⟩)
          exact depR_nil
        have hO2 : OwnSpells (B + 1) wz v lst := hO.out.kept (fun g hg => hwz.block g (by have := World.ownsRow.lt hO.out g hg; exact this.2) (by have := World.ownsRow.lt hO.out g hg; simp; omega))
        obtain ⟨av, cv, rfl, hrd, hav⟩ := Own.slice (f := Spell.cs) (m := 4) (fun _ => rfl) hO2
        repeat (first | ((first | (refine listF_step rfl (fun K' hK => ?_)) | (refine listF_yes rfl rfl (by decide) ?_ (fun K' hK => ?_); (focus (go_simp; done)))); unfold opF; go_simp; (refine hK _ _ ?_); clear hK K') | (refine listF_no (b' := true) rfl rfl (by decide) ?_ ?_ ?_; (focus (go_simp; done)); (focus rfl)) | (refine listF_no (b' := false) rfl rfl (by decide) ?_ ?_ ?_; (focus (go_simp; done)); (focus rfl)) | (refine listF_nu rfl rfl (by decide) ?_ ?_; (focus (go_simp; done))) | (refine listF_nil ?_) | (refine region_F ?_) | (refine cond_F true ?_ ?_; (focus (go_simp; done)); simp only [if_true]) | (refine cond_F false ?_ ?_; (focus (go_simp; done)); simp only [Bool.false_eq_true, if_false]) | (with_reducible go_step))
        refine ret_F (.tuple #[.slice av lst.length cv, .agg #[.int .i64 qc.now, .slice a qc.jobs.length c], .int .i64 0]) (res_tct (ad := ⟨w.heap.size + 1, 0, none⟩) Try.results25 ((getD_F (by simp)).trans (by go_simp)) ((getD_F (by simp)).trans (by go_simp)) (load_qu (kz0.cell 0 rfl) (kz0.cell 1 rfl)) ((getD_F (by simp)).trans (by go_simp))) ?_
        refine ⟨av, cv, a, c, by rw [Hday.out, hdE.out], by rw [Hday.out]; exact hrd, ?_, ?_, fun b hb => by have := hav b hb; omega, fun b hb => by have := hfr.out b hb; omega⟩
        · rw [Hday.out]; exact hq.old hwz (fun b hb => by have := hfr.out b hb; simp; omega)
        · exact HBr.out.trans (hwz.low (N := w.heap.size) (by have := k5.1; omega) (by simp))
    · have hdE := hid (show dayErr W till = 7 by unfold dayErr; rw [if_pos He.out, if_neg (by simp [hin])])
      have c00 := k0.cell 0 rfl
      have d0 := k5.cell 0 rfl
      have d1 := k5.cell 1 rfl
      have dz := k5.2.2
      repeat (first | ((first | (refine listF_step rfl (fun K' hK => ?_)) | (refine listF_yes rfl rfl (by decide) ?_ (fun K' hK => ?_); (focus (go_simp; done)))); unfold opF; go_simp; (refine hK _ _ ?_); clear hK K') | (refine listF_no (b' := true) rfl rfl (by decide) ?_ ?_ ?_; (focus (go_simp; done)); (focus rfl)) | (refine listF_no (b' := false) rfl rfl (by decide) ?_ ?_ ?_; (focus (go_simp; done)); (focus rfl)) | (refine listF_nu rfl rfl (by decide) ?_ ?_; (focus (go_simp; done))) | (refine listF_nil ?_) | (refine region_F ?_) | (refine cond_F true ?_ ?_; (focus (go_simp; done)); simp only [if_true]) | (refine cond_F false ?_ ?_; (focus (go_simp; done)); simp only [Bool.false_eq_true, if_false]) | (with_reducible go_step))
      (refine listF_yes rfl rfl (by decide) ?_ (fun K' hK => ?_); (focus (go_simp; done)); unfold opF; go_simp; refine (refin_any _ _ _ _).mono ?_; rintro e w' ⟨rfl, rfl⟩; refine ⟨_, rfl, hK _ _ ?_⟩; clear hK K')
      repeat (first | ((first | (refine listF_step rfl (fun K' hK => ?_)) | (refine listF_yes rfl rfl (by decide) ?_ (fun K' hK => ?_); (focus (go_simp; done)))); unfold opF; go_simp; (refine hK _ _ ?_); clear hK K') | (refine listF_no (b' := true) rfl rfl (by decide) ?_ ?_ ?_; (focus (go_simp; done)); (focus rfl)) | (refine listF_no (b' := false) rfl rfl (by decide) ?_ ?_ ?_; (focus (go_simp; done)); (focus rfl)) | (refine listF_nu rfl rfl (by decide) ?_ ?_; (focus (go_simp; done))) | (refine listF_nil ?_) | (refine region_F ?_) | (refine cond_F true ?_ ?_; (focus (go_simp; done)); simp only [if_true]) | (refine cond_F false ?_ ?_; (focus (go_simp; done)); simp only [Bool.false_eq_true, if_false]) | (with_reducible go_step))
      refine ret_F (.tuple #[.slice none 0 0, .agg #[.int .i64 0, .slice none 0 0], .int .i64 7]) (res_tct (ad := ⟨w.heap.size + 1, 0, none⟩) Try.results25 ((getD_F (by simp)).trans (by go_simp)) ((getD_F (by simp)).trans (by go_simp)) (load_qu (by go_simp) (by go_simp)) ((getD_F (by simp)).trans (by go_simp))) ?_
      have Hday := hid (show day W till = ([], Qu.zero) by unfold day; rw [hdE.out]; rfl)
      refine ⟨none, 0, none, 0, by rw [Hday.out, hdE.out]; rfl, by rw [Hday.out]; exact .inl rfl, by rw [Hday.out]; exact .inl rfl, (by repeat (first | (with_reducible exact HB2.out) | (with_reducible refine bdrewN ?_ _) | (with_reducible refine Below.drew ?_) | (with_reducible refine Below.setCell ?_ (by first | omega | (simp; done) | (simp; omega)) _) | (with_reducible refine Below.alloc ?_ (by first | omega | (simp; done) | (simp; omega)) _))), fun b hb => (by cases hb), fun b hb => (by cases hb)⟩
  · have he1 : ((check W).2.2 == 0) = false := by unfold Work.err at he; simp [he]
    have he2 : ((check W).2.2 != 0) = true := by unfold Work.err at he; simp [he]
    have hdE := hid (show dayErr W till = (check W).2.2 by unfold dayErr; rw [if_neg he]; rfl)
    have He := hid he
    clear he
    have d0 := k5.cell 0 rfl
    have d1 := k5.cell 1 rfl
    have dz := k5.2.2
    repeat (first | ((first | (refine listF_step rfl (fun K' hK => ?_)) | (refine listF_yes rfl rfl (by decide) ?_ (fun K' hK => ?_); (focus (go_simp; done)))); unfold opF; go_simp; (refine hK _ _ ?_); clear hK K') | (refine listF_no (b' := true) rfl rfl (by decide) ?_ ?_ ?_; (focus (go_simp; done)); (focus rfl)) | (refine listF_no (b' := false) rfl rfl (by decide) ?_ ?_ ?_; (focus (go_simp; done)); (focus rfl)) | (refine listF_nu rfl rfl (by decide) ?_ ?_; (focus (go_simp; done))) | (refine listF_nil ?_) | (refine region_F ?_) | (refine cond_F true ?_ ?_; (focus (go_simp; done)); simp only [if_true]) | (refine cond_F false ?_ ?_; (focus (go_simp; done)); simp only [Bool.false_eq_true, if_false]) | (with_reducible go_step))
    refine ret_F (.tuple #[.slice none 0 0, .agg #[.int .i64 0, .slice none 0 0], .int .i64 (check W).2.2]) (res_tct (ad := ⟨w.heap.size + 1, 0, none⟩) Try.results25 ((getD_F (by simp)).trans (by go_simp)) ((getD_F (by simp)).trans (by go_simp)) (load_qu (by go_simp) (by go_simp)) ((getD_F (by simp)).trans (by go_simp))) ?_
    have Hday := hid (show day W till = ([], Qu.zero) by unfold day; rw [hdE.out]; rw [if_neg (show ¬ (check W).2.2 = 0 from He.out)])
    refine ⟨none, 0, none, 0, by rw [Hday.out, hdE.out]; rfl, by rw [Hday.out]; exact .inl rfl, by rw [Hday.out]; exact .inl rfl, (by repeat (first | (with_reducible exact HB2.out) | (with_reducible refine bdrewN ?_ _) | (with_reducible refine Below.drew ?_) | (with_reducible refine Below.setCell ?_ (by first | omega | (simp; done) | (simp; omega)) _) | (with_reducible refine Below.alloc ?_ (by first | omega | (simp; done) | (simp; omega)) _))), fun b hb => (by cases hb), fun b hb => (by cases hb)⟩

end Go.Proofs.Ytbjgebbfachgfaa
