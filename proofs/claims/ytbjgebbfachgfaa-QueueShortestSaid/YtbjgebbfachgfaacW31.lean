/- the room's next. -/
import Derived.Test.YtbjgebbfachgfaacW30
import Derived.Test.YtbjgebbfachgfaacJ5
set_option linter.unusedVariables false
set_option linter.unusedSimpArgs false
set_option linter.unusedSectionVars false
set_option linter.all false
namespace Go.Proofs.Ytbjgebbfachgfaa
open Go.RowKit

theorem work_run {W : Work} {q : Qu} {k : Nat} (hK : WOk W) : runStep W q k = ((workStep W q k).1, ⟨(workStep W q k).1.until0, (workStep W q k).2⟩) := by
  unfold runStep workStep
  rw [fltL_eq hK]
  by_cases h : W.nextFault q.now < 0
  · have h' : ¬ 0 ≤ W.nextFault q.now := by omega
    simp [h, h']
  · have h' : 0 ≤ W.nextFault q.now := by omega
    by_cases h2 : W.nextFault q.now < endOf W q k
    · simp [h, h', h2]
    · simp [h, h', h2]
theorem next_repair {W : Work} {q : Qu} {f : Fault} (h : W.repairAt q.now = some f) : nextStep W q = (⟨5, -1, q.now, f.at0 + f.rep⟩, ⟨f.at0 + f.rep, q.jobs⟩) := by unfold nextStep; rw [h]
theorem next_idle {W : Work} {q : Qu} (hK : WOk W) (hQ : QOk W q) (h : W.repairAt q.now = none) (hr : readyUpto W q q.jobs.length = []) (hw : ∃ i, i < q.jobs.length ∧ (q.st i).why = 0) : nextStep W q = (⟨6, -1, q.now, idleMin W q⟩, ⟨idleMin W q, q.jobs⟩) := by
  unfold nextStep; rw [h, idle_eq hK hQ hr hw]
  have : takenUpto W q q.jobs.length = -1 := by rw [taken_eq, if_pos hr]
  simp [this]
theorem next_run {W : Work} {q : Qu} {k : Nat} (hK : WOk W) (h : W.repairAt q.now = none) (hr : readyUpto W q q.jobs.length ≠ []) (hk : minOf (fun a b => workCmp W q a.toNat b.toNat) (readyUpto W q q.jobs.length) = (k : Int)) : nextStep W q = ((workStep W q k).1, ⟨(workStep W q k).1.until0, (workStep W q k).2⟩) := by
  unfold nextStep; rw [h]
  have : takenUpto W q q.jobs.length = k := by rw [taken_eq, if_neg hr]; exact hk
  have hn : ¬ ((k : Int) < 0) := by omega
  simp only [this, hn, if_false, Int.toNat_natCast]
  exact work_run hK
theorem waits_ex {q : Qu} (h : waits q.jobs = true) : ∃ i, i < q.jobs.length ∧ (q.st i).why = 0 := by
  unfold waits at h
  obtain ⟨s, hs, h2⟩ := List.any_eq_true.1 h
  obtain ⟨i, hi, rfl⟩ := List.mem_iff_getElem.1 hs
  exact ⟨i, hi, by rw [Qu.st_eq hi]; simpa using h2⟩
theorem taken_ex {W : Work} {q : Qu} (hr : readyUpto W q q.jobs.length ≠ []) : ∃ k, minOf (fun a b => workCmp W q a.toNat b.toNat) (readyUpto W q q.jobs.length) = ((k : Nat) : Int) ∧ k < q.jobs.length ∧ (q.st k).why = 0 := by
  obtain ⟨i, h1, h2, h3⟩ := ready_mem (minOf_mem (fun a b => workCmp W q a.toNat b.toNat) hr)
  refine ⟨i, h1, h2, ?_⟩
  unfold cand at h3; simp at h3; exact h3.1
theorem workStep_kind (W : Work) (q : Qu) (k : Nat) : 1 ≤ (workStep W q k).1.kind := by
  unfold workStep kindOf
  split
  · show (1 : Int) ≤ 4; decide
  · show 1 ≤ (if doneOf W q k then (if (W.job k).fin == (W.job k).needs then (2 : Int) else 3) else 1)
    split
    · split <;> decide
    · decide

theorem cell_block {w w' : World} {b o : Nat} (h : w'.heap[b]? = w.heap[b]?) : w'.cell? ⟨b, o, none⟩ = w.cell? ⟨b, o, none⟩ := by
  simp only [World.cell?, h]
theorem frozen_block {w w' : World} {b o : Nat} (h : w'.heap[b]? = w.heap[b]?) : w'.frozen? ⟨b, o, none⟩ = w.frozen? ⟨b, o, none⟩ := by
  simp only [World.frozen?, h]
theorem Sp4.kept {w w' : World} {S : Nat} {a b c d : Int} (h : Sp4 w S a b c d) (hb : w'.heap[S]? = w.heap[S]?) : Sp4 w' S a b c d := by
  obtain ⟨h0, h1, h2, h3, h4⟩ := h
  exact ⟨(cell_block hb).trans h0, (cell_block hb).trans h1, (cell_block hb).trans h2, (cell_block hb).trans h3, fun o => (frozen_block hb).trans (h4 o)⟩
def NextRes (N : Nat) (w0 w : World) (R g : Nat) (W : Work) (q : Qu) (aj af : Option Addr) (cj cf cq : Nat) (e : Ending) (w' : World) : Prop :=
  e = .returned (.agg #[.int .i64 (nextStep W q).1.kind, .int .i64 (nextStep W q).1.job, .int .i64 (nextStep W q).1.from0, .int .i64 (nextStep W q).1.until0]) ∧ RoomOf N w0 w' R g W (nextStep W q).2 aj af cj cf cq ∧ Kept R g w w'

theorem RoomOf.now {N : Nat} {w0 w : World} {R g : Nat} {W : Work} {q : Qu} {aj af : Option Addr} {cj cf cq : Nat} (h : RoomOf N w0 w R g W q aj af cj cf cq) (n : Int) : RoomOf N w0 (w.setCell ⟨R, 7, none⟩ (.int .i64 n)) R g W ⟨n, q.jobs⟩ aj af cj cf cq := by
  have e : ∀ o', o' ≠ 7 → (w.setCell ⟨R, 7, none⟩ (.int .i64 n)).cell? ⟨R, o', none⟩ = w.cell? ⟨R, o', none⟩ := fun o' h => set_far (.inr h)
  exact ⟨(e 0 (by decide)).trans h.c0, (e 1 (by decide)).trans h.c1, (e 2 (by decide)).trans h.c2, (e 3 (by decide)).trans h.c3, (e 4 (by decide)).trans h.c4, (e 5 (by decide)).trans h.c5, (e 6 (by decide)).trans h.c6, set_at h.c7 rfl, (e 8 (by decide)).trans h.c8,
    fun o => by rw [World.frozen?_setCell]; exact h.fz o, by simpa using h.lt, h.ge, h.hN, h.wk0, h.bel.setCell h.ge _, by simpa using h.glt, h.gge, h.gR,
    fun o => by rw [World.frozen?_setCell]; exact h.gz o, fun i x hi j v hj => (set_far (.inl h.gR)).trans (h.sts i x hi j v hj)⟩

set_option maxRecDepth 100000 in
set_option maxHeartbeats 4000000 in
theorem next_any (N : Nat) (w0 w : World) (R g : Nat) (W : Work) (q : Qu) (aj af : Option Addr) (cj cf cq : Nat) (hR : RoomOf N w0 w R g W q aj af cj cf cq) (hK : WOk W) (hQ : QOk W q) (hw : waits q.jobs = true) :
    Calls Try.prog 55 #[.pointer (some ⟨R, 0, none⟩)] w (NextRes N w0 w R g W q aj af cj cf cq) := by
  have HR := hid hR
  have HK := hid hK
  have HQ := hid hQ
  have HW := hid hw
  have hRl := hR.lt
  clear hR hK hQ hw
  have i0 : ∀ w, (Instr.index 106 (.agg #[.func (.func 65) #[.pointer (some ⟨R, 0, none⟩)] #[], .func (.func 66) #[.pointer (some ⟨R, 0, none⟩)] #[], .func (.func 67) #[.pointer (some ⟨R, 0, none⟩)] #[]]) (.int .i64 0)).run Try.prog w = .ok (.func (.func 65) #[.pointer (some ⟨R, 0, none⟩)] #[]) w := fun _ => by kernel_rfl
  have i1 : ∀ w, (Instr.index 106 (.agg #[.func (.func 65) #[.pointer (some ⟨R, 0, none⟩)] #[], .func (.func 66) #[.pointer (some ⟨R, 0, none⟩)] #[], .func (.func 67) #[.pointer (some ⟨R, 0, none⟩)] #[]]) (.int .i64 1)).run Try.prog w = .ok (.func (.func 66) #[.pointer (some ⟨R, 0, none⟩)] #[]) w := fun _ => by kernel_rfl
  have i2 : ∀ w, (Instr.index 106 (.agg #[.func (.func 65) #[.pointer (some ⟨R, 0, none⟩)] #[], .func (.func 66) #[.pointer (some ⟨R, 0, none⟩)] #[], .func (.func 67) #[.pointer (some ⟨R, 0, none⟩)] #[]]) (.int .i64 2)).run Try.prog w = .ok (.func (.func 67) #[.pointer (some ⟨R, 0, none⟩)] #[]) w := fun _ => by kernel_rfl
  go_enter Try.func55, Try.ntmps55
  go_wp2_with fail
  go_loopw [15] (fun i wr => ∃ k : Nat, i = .int .i64 k ∧ k ≤ 2 ∧ Hid (1 ≤ k → W.repairAt q.now = none) ∧ Hid (2 ≤ k → readyUpto W q q.jobs.length ≠ []) ∧ Hid (Below w.heap.size w wr) ∧ Hid (Sp4 wr w.heap.size 0 0 0 0) ∧ Hid (Sp4 wr (w.heap.size + 1) 0 0 0 0) ∧ w.heap.size + 1 < wr.heap.size) (fun i _ => 3 - (intOf i).toNat)
  case atStart => exact ⟨0, rfl, by omega, hid (by omega), hid (by omega), hid (by repeat (first | (with_reducible exact Below.refl _ _) | (with_reducible refine bdrewN ?_ _) | (with_reducible refine Below.drew ?_) | (with_reducible refine Below.setCell ?_ (by first | omega | (simp; done) | (simp; omega)) _) | (with_reducible refine Below.alloc ?_ (by first | omega | (simp; done) | (simp; omega)) _))), hid ⟨by go_simp, by go_simp, by go_simp, by go_simp, by intro o; go_simp⟩, hid ⟨by go_simp, by go_simp, by go_simp, by go_simp, by intro o; go_simp⟩, (by first | omega | (simp; done) | (simp; omega))⟩
  case round =>
    obtain ⟨k, rfl, hk, HP, HY, HB, S1, S2, hsz⟩ := hrel
    have hsz0 : w.heap.size < wr.heap.size := by omega
    have hRr : R < wr.heap.size := by omega
    obtain rfl | rfl | rfl : k = 0 ∨ k = 1 ∨ k = 2 := by omega
    · clear HP HY
      go_wp2_with fail
      refine (repair_any R W q aj af (some ⟨g, 0, none⟩) cj cf cq _ (HR.out.at HB.out).in HK.out).mono ?_
      rintro e w2 ⟨rfl, hb2⟩
      rw [repair_eq HK.out]
      cases hrp : W.repairAt q.now with
      | none =>
        have Hrp := hid hrp; clear hrp
        simp only [repOf, Spell.zero]
        have HB2 := hid (HB.out.trans (hb2.mono HB.out.size))
        have T1 := hid (S1.out.at hb2 hsz0)
        have T2 := hid (S2.out.at hb2 hsz)
        have hs2 := hb2.size
        clear S1 S2 HB hb2
        obtain ⟨z0, z1, z2, z3, z4⟩ := T2.out
        have hq0 : w.heap.size < w2.heap.size := by omega
        have hq1 : w.heap.size + 1 < w2.heap.size := by omega
        go_wp2_with fail
        go_roundw
        case rel => exact ⟨1, by go_num, by omega, hid fun _ => Hrp.out, hid (by omega), hid (by repeat (first | (with_reducible exact HB2.out) | (with_reducible refine bdrewN ?_ _) | (with_reducible refine Below.drew ?_) | (with_reducible refine Below.setCell ?_ (by first | omega | (simp; done) | (simp; omega)) _) | (with_reducible refine Below.alloc ?_ (by first | omega | (simp; done) | (simp; omega)) _))), hid (T1.out.at (by repeat (first | (with_reducible exact Below.refl _ _) | (with_reducible refine bdrewN ?_ _) | (with_reducible refine Below.drew ?_) | (with_reducible refine Below.setCell ?_ (by first | omega | (simp; done) | (simp; omega)) _) | (with_reducible refine Below.alloc ?_ (by first | omega | (simp; done) | (simp; omega)) _))) hq0), hid (T2.out.at (by repeat (first | (with_reducible exact Below.refl _ _) | (with_reducible refine bdrewN ?_ _) | (with_reducible refine Below.drew ?_) | (with_reducible refine Below.setCell ?_ (by first | omega | (simp; done) | (simp; omega)) _) | (with_reducible refine Below.alloc ?_ (by first | omega | (simp; done) | (simp; omega)) _))) hq1), (by first | omega | (simp; done) | (simp; omega))⟩
        case measure => simp [intOf]
      | some f =>
        have Hn := hid (next_repair hrp); clear hrp
        simp only [repOf]
        have HB2 := hid (HB.out.trans (hb2.mono HB.out.size))
        have T1 := hid (S1.out.at hb2 hsz0)
        have T2 := hid (S2.out.at hb2 hsz)
        have hs2 := hb2.size
        clear S1 S2 HB hb2
        obtain ⟨z0, z1, z2, z3, z4⟩ := T2.out
        obtain ⟨y0, y1, y2, y3, y4⟩ := T1.out
        have hq0 : w.heap.size < w2.heap.size := by omega
        have hq1 : w.heap.size + 1 < w2.heap.size := by omega
        have RO := hid (HR.out.at HB2.out)
        have c7 := RO.out.c7
        have cz := RO.out.fz
        have hq2 : R < w2.heap.size := by omega
        have hq3 : ¬ R = w.heap.size := by omega
        have hq4 : ¬ w.heap.size = R := by omega
        have n1 : w.heap.size ≠ g := by have := HR.out.glt; omega
        have n2 : w.heap.size ≠ R := by omega
        have n3 : N ≤ w.heap.size := by have := HR.out.ge; omega
        go_wp2_with fail
        refine bodyPost_ret (v := .agg #[.int .i64 5, .int .i64 (-1), .int .i64 q.now, .int .i64 (f.at0 + f.rep)]) (res_c Try.results55 rfl (load_spell ?_ ?_ ?_ ?_)) rfl ⟨by rw [Hn.out], ?_, ?_⟩
        · go_simp
        · go_simp
        · go_simp
        · go_simp
        · rw [Hn.out]
          exact (((((RO.out.now _).setFar n2 n1 n3).setFar n2 n1 n3).setFar n2 n1 n3).setFar n2 n1 n3).at ((Below.refl _ _).alloc (Nat.le_refl _) _)
        · exact ((((((Kept.of_below HB2.out).trans (Kept.set (.inl rfl))).setNew (Nat.le_refl _)).setNew (Nat.le_refl _)).setNew (Nat.le_refl _)).setNew (Nat.le_refl _)).trans (Kept.of_below ((Below.refl _ _).alloc (Nat.le_refl _) _))
    · have Hrp := hid (HP.out (by omega)); clear HP HY
      go_wp2_with fail
      refine (idle_any R W q aj af (some ⟨g, 0, none⟩) cj cf cq _ (HR.out.at HB.out).in HK.out HQ.out).mono ?_
      rintro e w2 ⟨rfl, hb2⟩
      by_cases hr : readyUpto W q q.jobs.length = []
      · have Hn := hid (next_idle HK.out HQ.out Hrp.out hr (waits_ex HW.out))
        rw [show idleSp W q = ⟨6, -1, q.now, idleMin W q⟩ by unfold idleSp; rw [hr]; rfl]
        clear hr
        generalize idleMin W q = im at *
        have HB2 := hid (HB.out.trans (hb2.mono HB.out.size))
        have T1 := hid (S1.out.at hb2 hsz0)
        have T2 := hid (S2.out.at hb2 hsz)
        have hs2 := hb2.size
        clear S1 S2 HB hb2
        obtain ⟨z0, z1, z2, z3, z4⟩ := T2.out
        obtain ⟨y0, y1, y2, y3, y4⟩ := T1.out
        have hq0 : w.heap.size < w2.heap.size := by omega
        have hq1 : w.heap.size + 1 < w2.heap.size := by omega
        have RO := hid (HR.out.at HB2.out)
        have c7 := RO.out.c7
        have cz := RO.out.fz
        have hq2 : R < w2.heap.size := by omega
        have hq3 : ¬ R = w.heap.size := by omega
        have hq4 : ¬ w.heap.size = R := by omega
        have n1 : w.heap.size ≠ g := by have := HR.out.glt; omega
        have n2 : w.heap.size ≠ R := by omega
        have n3 : N ≤ w.heap.size := by have := HR.out.ge; omega
        go_wp2_with fail
        refine bodyPost_ret (v := .agg #[.int .i64 6, .int .i64 (-1), .int .i64 q.now, .int .i64 im]) (res_c Try.results55 rfl (load_spell ?_ ?_ ?_ ?_)) rfl ⟨by rw [Hn.out], ?_, ?_⟩
        · go_simp
        · go_simp
        · go_simp
        · go_simp
        · rw [Hn.out]
          exact (((((RO.out.now _).setFar n2 n1 n3).setFar n2 n1 n3).setFar n2 n1 n3).setFar n2 n1 n3).at ((Below.refl _ _).alloc (Nat.le_refl _) _)
        · exact ((((((Kept.of_below HB2.out).trans (Kept.set (.inl rfl))).setNew (Nat.le_refl _)).setNew (Nat.le_refl _)).setNew (Nat.le_refl _)).setNew (Nat.le_refl _)).trans (Kept.of_below ((Below.refl _ _).alloc (Nat.le_refl _) _))
      · have hl : 0 < (readyUpto W q q.jobs.length).length := List.length_pos_iff.2 hr
        rw [show idleSp W q = Spell.zero by unfold idleSp; rw [if_pos hl]]
        have Hr := hid hr; clear hr hl
        simp only [Spell.zero]
        have HB2 := hid (HB.out.trans (hb2.mono HB.out.size))
        have T1 := hid (S1.out.at hb2 hsz0)
        have T2 := hid (S2.out.at hb2 hsz)
        have hs2 := hb2.size
        clear S1 S2 HB hb2
        obtain ⟨z0, z1, z2, z3, z4⟩ := T2.out
        have hq0 : w.heap.size < w2.heap.size := by omega
        have hq1 : w.heap.size + 1 < w2.heap.size := by omega
        go_wp2_with fail
        go_roundw
        case rel => exact ⟨2, by go_num, by omega, hid fun _ => Hrp.out, hid fun _ => Hr.out, hid (by repeat (first | (with_reducible exact HB2.out) | (with_reducible refine bdrewN ?_ _) | (with_reducible refine Below.drew ?_) | (with_reducible refine Below.setCell ?_ (by first | omega | (simp; done) | (simp; omega)) _) | (with_reducible refine Below.alloc ?_ (by first | omega | (simp; done) | (simp; omega)) _))), hid (T1.out.at (by repeat (first | (with_reducible exact Below.refl _ _) | (with_reducible refine bdrewN ?_ _) | (with_reducible refine Below.drew ?_) | (with_reducible refine Below.setCell ?_ (by first | omega | (simp; done) | (simp; omega)) _) | (with_reducible refine Below.alloc ?_ (by first | omega | (simp; done) | (simp; omega)) _))) hq0), hid (T2.out.at (by repeat (first | (with_reducible exact Below.refl _ _) | (with_reducible refine bdrewN ?_ _) | (with_reducible refine Below.drew ?_) | (with_reducible refine Below.setCell ?_ (by first | omega | (simp; done) | (simp; omega)) _) | (with_reducible refine Below.alloc ?_ (by first | omega | (simp; done) | (simp; omega)) _))) hq1), (by first | omega | (simp; done) | (simp; omega))⟩
        case measure => simp [intOf]
    · have Hrp := hid (HP.out (by omega))
      obtain ⟨k, hk1, hk2, hk3⟩ := taken_ex (HY.out (by omega))
      have Hn := hid (next_run HK.out Hrp.out (HY.out (by omega)) hk1)
      have hne : 0 < (readyUpto W q q.jobs.length).length := List.length_pos_iff.2 (HY.out (by omega))
      clear HP
      go_wp2_with fail
      refine (work_any N w0 _ R g W q k aj af cj cf cq (HR.out.at HB.out) HK.out HQ.out hne hk1 hk2 (by rw [← Qu.st_eq hk2]; exact hk3)).mono ?_
      rintro e w2 ⟨rfl, hRO, hKe⟩
      have hkd := workStep_kind W q k
      have hkd2 : ((workStep W q k).1.kind == 0) = false := by simp; omega
      have hkd3 : ((workStep W q k).1.kind != 0) = true := by simp; omega
      clear hne hk1 hk2 hk3 HY
      have RO := hid hRO
      have HKe := hid ((Kept.of_below HB.out).trans hKe)
      obtain ⟨e0, e1⟩ := hKe
      have hg := HR.out.glt
      have T1 := hid (S1.out.kept (e1 _ hsz0 (by omega) (by omega)))
      have T2 := hid (S2.out.kept (e1 _ hsz (by omega) (by omega)))
      clear S1 S2 HB e1 hRO hg
      generalize (workStep W q k).2 = jobs2 at *
      generalize (workStep W q k).1 = sp at *
      obtain ⟨z0, z1, z2, z3, z4⟩ := T2.out
      obtain ⟨y0, y1, y2, y3, y4⟩ := T1.out
      have hq0 : w.heap.size < w2.heap.size := by omega
      have hq1 : w.heap.size + 1 < w2.heap.size := by omega
      have c7 := RO.out.c7
      have cz := RO.out.fz
      have hq2 : R < w2.heap.size := by omega
      have hq3 : ¬ R = w.heap.size := by omega
      have hq4 : ¬ w.heap.size = R := by omega
      have n1 : w.heap.size ≠ g := by have := HR.out.glt; omega
      have n2 : w.heap.size ≠ R := by omega
      have n3 : N ≤ w.heap.size := by have := HR.out.ge; omega
      obtain ⟨kd, jb, fr, un⟩ := sp
      simp only at *
      go_wp2_with fail
      refine bodyPost_ret (v := .agg #[.int .i64 kd, .int .i64 jb, .int .i64 fr, .int .i64 un]) (res_c Try.results55 rfl (load_spell ?_ ?_ ?_ ?_)) rfl ⟨by rw [Hn.out], ?_, ?_⟩
      · go_simp
      · go_simp
      · go_simp
      · go_simp
      · rw [Hn.out]
        exact (((((RO.out.now _).setFar n2 n1 n3).setFar n2 n1 n3).setFar n2 n1 n3).setFar n2 n1 n3).at ((Below.refl _ _).alloc (Nat.le_refl _) _)
      · exact (((((HKe.out.trans (Kept.set (.inl rfl))).setNew (Nat.le_refl _)).setNew (Nat.le_refl _)).setNew (Nat.le_refl _)).setNew (Nat.le_refl _)).trans (Kept.of_below ((Below.refl _ _).alloc (Nat.le_refl _) _))

end Go.Proofs.Ytbjgebbfachgfaa
