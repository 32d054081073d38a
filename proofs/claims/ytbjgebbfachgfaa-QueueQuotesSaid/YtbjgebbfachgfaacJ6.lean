/- Texts of this proof, joined: W31 Fast W19 W20 W33. -/
import Derived.StillTail
import Derived.Test.YtbjgebbfachgfaacW30
import Derived.Test.YtbjgebbfachgfaacJ5
import Derived.Test.YtbjgebbfachgfaacJ4
import Derived.Test.YtbjgebbfachgfaacJ3
set_option linter.unusedVariables false
set_option linter.unusedSimpArgs false
set_option linter.unusedSectionVars false
set_option linter.all false
/- the room's next. -/
namespace Go.Proofs.Ytbjgebbfachgfaa
open Go.RowKit

theorem work_run {W : Work} {q : Qu} {k : Nat} (hK : WOk W) : runStep W q k = ((workStep W q k).1, ⟨(workStep W q k).1.until0, (workStep W q k).2⟩) := by
  unfold runStep workStep
  rw [fltL_eq hK]
  by_cases h : W.nextFault q.now < 0
  · have h' : ¬ 0 ≤ W.nextFault q.now := by omega
    simp [h, h']
  · have h' : 0 ≤ W.nextFault q.now := by omega
    by_cases h2 : W.nextFault q.now < endOf W q k
    · simp [h, h', h2]
    · simp [h, h', h2]
theorem next_repair {W : Work} {q : Qu} {f : Fault} (h : W.repairAt q.now = some f) : nextStep W q = (⟨5, -1, q.now, f.at0 + f.rep⟩, ⟨f.at0 + f.rep, q.jobs⟩) := by unfold nextStep; rw [h]
theorem next_idle {W : Work} {q : Qu} (hK : WOk W) (hQ : QOk W q) (h : W.repairAt q.now = none) (hr : readyUpto W q q.jobs.length = []) (hw : ∃ i, i < q.jobs.length ∧ (q.st i).why = 0) : nextStep W q = (⟨6, -1, q.now, idleMin W q⟩, ⟨idleMin W q, q.jobs⟩) := by
  unfold nextStep; rw [h, idle_eq hK hQ hr hw]
  have : takenUpto W q q.jobs.length = -1 := by rw [taken_eq, if_pos hr]
  simp [this]
theorem next_run {W : Work} {q : Qu} {k : Nat} (hK : WOk W) (h : W.repairAt q.now = none) (hr : readyUpto W q q.jobs.length ≠ []) (hk : minOf (fun a b => workCmp W q a.toNat b.toNat) (readyUpto W q q.jobs.length) = (k : Int)) : nextStep W q = ((workStep W q k).1, ⟨(workStep W q k).1.until0, (workStep W q k).2⟩) := by
  unfold nextStep; rw [h]
  have : takenUpto W q q.jobs.length = k := by rw [taken_eq, if_neg hr]; exact hk
  have hn : ¬ ((k : Int) < 0) := by omega
  simp only [this, hn, if_false, Int.toNat_natCast]
  exact work_run hK
theorem waits_ex {q : Qu} (h : waits q.jobs = true) : ∃ i, i < q.jobs.length ∧ (q.st i).why = 0 := by
  unfold waits at h
  obtain ⟨s, hs, h2⟩ := List.any_eq_true.1 h
  obtain ⟨i, hi, rfl⟩ := List.mem_iff_getElem.1 hs
  exact ⟨i, hi, by rw [Qu.st_eq hi]; simpa using h2⟩
theorem taken_ex {W : Work} {q : Qu} (hr : readyUpto W q q.jobs.length ≠ []) : ∃ k, minOf (fun a b => workCmp W q a.toNat b.toNat) (readyUpto W q q.jobs.length) = ((k : Nat) : Int) ∧ k < q.jobs.length ∧ (q.st k).why = 0 := by
  obtain ⟨i, h1, h2, h3⟩ := ready_mem (minOf_mem (fun a b => workCmp W q a.toNat b.toNat) hr)
  refine ⟨i, h1, h2, ?_⟩
  unfold cand at h3; simp at h3; exact h3.1
theorem workStep_kind (W : Work) (q : Qu) (k : Nat) : 1 ≤ (workStep W q k).1.kind := by
  unfold workStep kindOf
  split
  · show (1 : Int) ≤ 4; decide
  · show 1 ≤ (if doneOf W q k then (if (W.job k).fin == (W.job k).needs then (2 : Int) else 3) else 1)
    split
    · split <;> decide
    · decide

theorem cell_block {w w' : World} {b o : Nat} (h : w'.heap[b]? = w.heap[b]?) : w'.cell? ⟨b, o, none⟩ = w.cell? ⟨b, o, none⟩ := by
  simp only [World.cell?, h]
theorem frozen_block {w w' : World} {b o : Nat} (h : w'.heap[b]? = w.heap[b]?) : w'.frozen? ⟨b, o, none⟩ = w.frozen? ⟨b, o, none⟩ := by
  simp only [World.frozen?, h]
theorem Sp4.kept {w w' : World} {S : Nat} {a b c d : Int} (h : Sp4 w S a b c d) (hb : w'.heap[S]? = w.heap[S]?) : Sp4 w' S a b c d := by
  obtain ⟨h0, h1, h2, h3, h4⟩ := h
  exact ⟨(cell_block hb).trans h0, (cell_block hb).trans h1, (cell_block hb).trans h2, (cell_block hb).trans h3, fun o => (frozen_block hb).trans (h4 o)⟩
def NextRes (N : Nat) (w0 w : World) (R g : Nat) (W : Work) (q : Qu) (aj af : Option Addr) (cj cf cq : Nat) (e : Ending) (w' : World) : Prop :=
  e = .returned (.agg #[.int .i64 (nextStep W q).1.kind, .int .i64 (nextStep W q).1.job, .int .i64 (nextStep W q).1.from0, .int .i64 (nextStep W q).1.until0]) ∧ RoomOf N w0 w' R g W (nextStep W q).2 aj af cj cf cq ∧ Kept R g w w'

theorem RoomOf.now {N : Nat} {w0 w : World} {R g : Nat} {W : Work} {q : Qu} {aj af : Option Addr} {cj cf cq : Nat} (h : RoomOf N w0 w R g W q aj af cj cf cq) (n : Int) : RoomOf N w0 (w.setCell ⟨R, 7, none⟩ (.int .i64 n)) R g W ⟨n, q.jobs⟩ aj af cj cf cq := by
  have e : ∀ o', o' ≠ 7 → (w.setCell ⟨R, 7, none⟩ (.int .i64 n)).cell? ⟨R, o', none⟩ = w.cell? ⟨R, o', none⟩ := fun o' h => set_far (.inr h)
  exact ⟨(e 0 (by decide)).trans h.c0, (e 1 (by decide)).trans h.c1, (e 2 (by decide)).trans h.c2, (e 3 (by decide)).trans h.c3, (e 4 (by decide)).trans h.c4, (e 5 (by decide)).trans h.c5, (e 6 (by decide)).trans h.c6, set_at h.c7 rfl, (e 8 (by decide)).trans h.c8,
    fun o => by rw [World.frozen?_setCell]; exact h.fz o, by simpa using h.lt, h.ge, h.hN, h.wk0, h.bel.setCell h.ge _, by simpa using h.glt, h.gge, h.gR,
    fun o => by rw [World.frozen?_setCell]; exact h.gz o, fun i x hi j v hj => (set_far (.inl h.gR)).trans (h.sts i x hi j v hj)⟩

set_option maxRecDepth 100000 in
set_option maxHeartbeats 4000000 in
theorem next_any (N : Nat) (w0 w : World) (R g : Nat) (W : Work) (q : Qu) (aj af : Option Addr) (cj cf cq : Nat) (hR : RoomOf N w0 w R g W q aj af cj cf cq) (hK : WOk W) (hQ : QOk W q) (hw : waits q.jobs = true) :
    Calls Try.prog 55 #[.pointer (some ⟨R, 0, none⟩)] w (NextRes N w0 w R g W q aj af cj cf cq) := by
  have HR := hid hR
  have HK := hid hK
  have HQ := hid hQ
  have HW := hid hw
  have hRl := hR.lt
  clear hR hK hQ hw
  have i0 : ∀ w, (Instr.index 106 (.agg #[.func (.func 65) #[.pointer (some ⟨R, 0, none⟩)] #[], .func (.func 66) #[.pointer (some ⟨R, 0, none⟩)] #[], .func (.func 67) #[.pointer (some ⟨R, 0, none⟩)] #[]]) (.int .i64 0)).run Try.prog w = .ok (.func (.func 65) #[.pointer (some ⟨R, 0, none⟩)] #[]) w := fun _ => by kernel_rfl
  have i1 : ∀ w, (Instr.index 106 (.agg #[.func (.func 65) #[.pointer (some ⟨R, 0, none⟩)] #[], .func (.func 66) #[.pointer (some ⟨R, 0, none⟩)] #[], .func (.func 67) #[.pointer (some ⟨R, 0, none⟩)] #[]]) (.int .i64 1)).run Try.prog w = .ok (.func (.func 66) #[.pointer (some ⟨R, 0, none⟩)] #[]) w := fun _ => by kernel_rfl
  have i2 : ∀ w, (Instr.index 106 (.agg #[.func (.func 65) #[.pointer (some ⟨R, 0, none⟩)] #[], .func (.func 66) #[.pointer (some ⟨R, 0, none⟩)] #[], .func (.func 67) #[.pointer (some ⟨R, 0, none⟩)] #[]]) (.int .i64 2)).run Try.prog w = .ok (.func (.func 67) #[.pointer (some ⟨R, 0, none⟩)] #[]) w := fun _ => by kernel_rfl
  go_enter Try.func55, Try.ntmps55
  go_wp2_with fail
  go_loopw [15] (fun i wr => ∃ k : Nat, i = .int .i64 k ∧ k ≤ 2 ∧ Hid (1 ≤ k → W.repairAt q.now = none) ∧ Hid (2 ≤ k → readyUpto W q q.jobs.length ≠ []) ∧ Hid (Below w.heap.size w wr) ∧ Hid (Sp4 wr w.heap.size 0 0 0 0) ∧ Hid (Sp4 wr (w.heap.size + 1) 0 0 0 0) ∧ w.heap.size + 1 < wr.heap.size) (fun i _ => 3 - (intOf i).toNat)
  case atStart => exact ⟨0, rfl, by omega, hid (by omega), hid (by omega), hid (by repeat (first | (with_reducible exact Below.refl _ _) | (with_reducible refine bdrewN ?_ _) | (with_reducible refine Below.drew ?_) | (with_reducible refine Below.setCell ?_ (by first | omega | (simp; done) | (simp; omega)) _) | (with_reducible refine Below.alloc ?_ (by first | omega | (simp; done) | (simp; omega)) _))), hid ⟨by go_simp, by go_simp, by go_simp, by go_simp, by intro o; go_simp⟩, hid ⟨by go_simp, by go_simp, by go_simp, by go_simp, by intro o; go_simp⟩, (by first | omega | (simp; done) | (simp; omega))⟩
  case round =>
    obtain ⟨k, rfl, hk, HP, HY, HB, S1, S2, hsz⟩ := hrel
    have hsz0 : w.heap.size < wr.heap.size := by omega
    have hRr : R < wr.heap.size := by omega
    obtain rfl | rfl | rfl : k = 0 ∨ k = 1 ∨ k = 2 := by omega
    · clear HP HY
      go_wp2_with fail
      refine (repair_any R W q aj af (some ⟨g, 0, none⟩) cj cf cq _ (HR.out.at HB.out).in HK.out).mono ?_
      rintro e w2 ⟨rfl, hb2⟩
      rw [repair_eq HK.out]
      cases hrp : W.repairAt q.now with
      | none =>
        have Hrp := hid hrp; clear hrp
        simp only [repOf, Spell.zero]
        have HB2 := hid (HB.out.trans (hb2.mono HB.out.size))
        have T1 := hid (S1.out.at hb2 hsz0)
        have T2 := hid (S2.out.at hb2 hsz)
        have hs2 := hb2.size
        clear S1 S2 HB hb2
        obtain ⟨z0, z1, z2, z3, z4⟩ := T2.out
        have hq0 : w.heap.size < w2.heap.size := by omega
        have hq1 : w.heap.size + 1 < w2.heap.size := by omega
        go_wp2_with fail
        go_roundw
        case rel => exact ⟨1, by go_num, by omega, hid fun _ => Hrp.out, hid (by omega), hid (by repeat (first | (with_reducible exact HB2.out) | (with_reducible refine bdrewN ?_ _) | (with_reducible refine Below.drew ?_) | (with_reducible refine Below.setCell ?_ (by first | omega | (simp; done) | (simp; omega)) _) | (with_reducible refine Below.alloc ?_ (by first | omega | (simp; done) | (simp; omega)) _))), hid (T1.out.at (by repeat (first | (with_reducible exact Below.refl _ _) | (with_reducible refine bdrewN ?_ _) | (with_reducible refine Below.drew ?_) | (with_reducible refine Below.setCell ?_ (by first | omega | (simp; done) | (simp; omega)) _) | (with_reducible refine Below.alloc ?_ (by first | omega | (simp; done) | (simp; omega)) _))) hq0), hid (T2.out.at (by repeat (first | (with_reducible exact Below.refl _ _) | (with_reducible refine bdrewN ?_ _) | (with_reducible refine Below.drew ?_) | (with_reducible refine Below.setCell ?_ (by first | omega | (simp; done) | (simp; omega)) _) | (with_reducible refine Below.alloc ?_ (by first | omega | (simp; done) | (simp; omega)) _))) hq1), (by first | omega | (simp; done) | (simp; omega))⟩
        case measure => simp [intOf]
      | some f =>
        have Hn := hid (next_repair hrp); clear hrp
        simp only [repOf]
        have HB2 := hid (HB.out.trans (hb2.mono HB.out.size))
        have T1 := hid (S1.out.at hb2 hsz0)
        have T2 := hid (S2.out.at hb2 hsz)
        have hs2 := hb2.size
        clear S1 S2 HB hb2
        obtain ⟨z0, z1, z2, z3, z4⟩ := T2.out
        obtain ⟨y0, y1, y2, y3, y4⟩ := T1.out
        have hq0 : w.heap.size < w2.heap.size := by omega
        have hq1 : w.heap.size + 1 < w2.heap.size := by omega
        have RO := hid (HR.out.at HB2.out)
        have c7 := RO.out.c7
        have cz := RO.out.fz
        have hq2 : R < w2.heap.size := by omega
        have hq3 : ¬ R = w.heap.size := by omega
        have hq4 : ¬ w.heap.size = R := by omega
        have n1 : w.heap.size ≠ g := by have := HR.out.glt; omega
        have n2 : w.heap.size ≠ R := by omega
        have n3 : N ≤ w.heap.size := by have := HR.out.ge; omega
        go_wp2_with fail
        refine bodyPost_ret (v := .agg #[.int .i64 5, .int .i64 (-1), .int .i64 q.now, .int .i64 (f.at0 + f.rep)]) (res_c Try.results55 rfl (load_spell ?_ ?_ ?_ ?_)) rfl ⟨by rw [Hn.out], ?_, ?_⟩
        · go_simp
        · go_simp
        · go_simp
        · go_simp
        · rw [Hn.out]
          exact (((((RO.out.now _).setFar n2 n1 n3).setFar n2 n1 n3).setFar n2 n1 n3).setFar n2 n1 n3).at ((Below.refl _ _).alloc (Nat.le_refl _) _)
        · exact ((((((Kept.of_below HB2.out).trans (Kept.set (.inl rfl))).setNew (Nat.le_refl _)).setNew (Nat.le_refl _)).setNew (Nat.le_refl _)).setNew (Nat.le_refl _)).trans (Kept.of_below ((Below.refl _ _).alloc (Nat.le_refl _) _))
    · have Hrp := hid (HP.out (by omega)); clear HP HY
      go_wp2_with fail
      refine (idle_any R W q aj af (some ⟨g, 0, none⟩) cj cf cq _ (HR.out.at HB.out).in HK.out HQ.out).mono ?_
      rintro e w2 ⟨rfl, hb2⟩
      by_cases hr : readyUpto W q q.jobs.length = []
      · have Hn := hid (next_idle HK.out HQ.out Hrp.out hr (waits_ex HW.out))
        rw [show idleSp W q = ⟨6, -1, q.now, idleMin W q⟩ by unfold idleSp; rw [hr]; rfl]
        clear hr
        generalize idleMin W q = im at *
        have HB2 := hid (HB.out.trans (hb2.mono HB.out.size))
        have T1 := hid (S1.out.at hb2 hsz0)
        have T2 := hid (S2.out.at hb2 hsz)
        have hs2 := hb2.size
        clear S1 S2 HB hb2
        obtain ⟨z0, z1, z2, z3, z4⟩ := T2.out
        obtain ⟨y0, y1, y2, y3, y4⟩ := T1.out
        have hq0 : w.heap.size < w2.heap.size := by omega
        have hq1 : w.heap.size + 1 < w2.heap.size := by omega
        have RO := hid (HR.out.at HB2.out)
        have c7 := RO.out.c7
        have cz := RO.out.fz
        have hq2 : R < w2.heap.size := by omega
        have hq3 : ¬ R = w.heap.size := by omega
        have hq4 : ¬ w.heap.size = R := by omega
        have n1 : w.heap.size ≠ g := by have := HR.out.glt; omega
        have n2 : w.heap.size ≠ R := by omega
        have n3 : N ≤ w.heap.size := by have := HR.out.ge; omega
        go_wp2_with fail
        refine bodyPost_ret (v := .agg #[.int .i64 6, .int .i64 (-1), .int .i64 q.now, .int .i64 im]) (res_c Try.results55 rfl (load_spell ?_ ?_ ?_ ?_)) rfl ⟨by rw [Hn.out], ?_, ?_⟩
        · go_simp
        · go_simp
        · go_simp
        · go_simp
        · rw [Hn.out]
          exact (((((RO.out.now _).setFar n2 n1 n3).setFar n2 n1 n3).setFar n2 n1 n3).setFar n2 n1 n3).at ((Below.refl _ _).alloc (Nat.le_refl _) _)
        · exact ((((((Kept.of_below HB2.out).trans (Kept.set (.inl rfl))).setNew (Nat.le_refl _)).setNew (Nat.le_refl _)).setNew (Nat.le_refl _)).setNew (Nat.le_refl _)).trans (Kept.of_below ((Below.refl _ _).alloc (Nat.le_refl _) _))
      · have hl : 0 < (readyUpto W q q.jobs.length).length := List.length_pos_iff.2 hr
        rw [show idleSp W q = Spell.zero by unfold idleSp; rw [if_pos hl]]
        have Hr := hid hr; clear hr hl
        simp only [Spell.zero]
        have HB2 := hid (HB.out.trans (hb2.mono HB.out.size))
        have T1 := hid (S1.out.at hb2 hsz0)
        have T2 := hid (S2.out.at hb2 hsz)
        have hs2 := hb2.size
        clear S1 S2 HB hb2
        obtain ⟨z0, z1, z2, z3, z4⟩ := T2.out
        have hq0 : w.heap.size < w2.heap.size := by omega
        have hq1 : w.heap.size + 1 < w2.heap.size := by omega
        go_wp2_with fail
        go_roundw
        case rel => exact ⟨2, by go_num, by omega, hid fun _ => Hrp.out, hid fun _ => Hr.out, hid (by repeat (first | (with_reducible exact HB2.out) | (with_reducible refine bdrewN ?_ _) | (with_reducible refine Below.drew ?_) | (with_reducible refine Below.setCell ?_ (by first | omega | (simp; done) | (simp; omega)) _) | (with_reducible refine Below.alloc ?_ (by first | omega | (simp; done) | (simp; omega)) _))), hid (T1.out.at (by repeat (first | (with_reducible exact Below.refl _ _) | (with_reducible refine bdrewN ?_ _) | (with_reducible refine Below.drew ?_) | (with_reducible refine Below.setCell ?_ (by first | omega | (simp; done) | (simp; omega)) _) | (with_reducible refine Below.alloc ?_ (by first | omega | (simp; done) | (simp; omega)) _))) hq0), hid (T2.out.at (by repeat (first | (with_reducible exact Below.refl _ _) | (with_reducible refine bdrewN ?_ _) | (with_reducible refine Below.drew ?_) | (with_reducible refine Below.setCell ?_ (by first | omega | (simp; done) | (simp; omega)) _) | (with_reducible refine Below.alloc ?_ (by first | omega | (simp; done) | (simp; omega)) _))) hq1), (by first | omega | (simp; done) | (simp; omega))⟩
        case measure => simp [intOf]
    · have Hrp := hid (HP.out (by omega))
      obtain ⟨k, hk1, hk2, hk3⟩ := taken_ex (HY.out (by omega))
      have Hn := hid (next_run HK.out Hrp.out (HY.out (by omega)) hk1)
      have hne : 0 < (readyUpto W q q.jobs.length).length := List.length_pos_iff.2 (HY.out (by omega))
      clear HP
      go_wp2_with fail
      refine (work_any N w0 _ R g W q k aj af cj cf cq (HR.out.at HB.out) HK.out HQ.out hne hk1 hk2 (by rw [← Qu.st_eq hk2]; exact hk3)).mono ?_
      rintro e w2 ⟨rfl, hRO, hKe⟩
      have hkd := workStep_kind W q k
      have hkd2 : ((workStep W q k).1.kind == 0) = false := by simp; omega
      have hkd3 : ((workStep W q k).1.kind != 0) = true := by simp; omega
      clear hne hk1 hk2 hk3 HY
      have RO := hid hRO
      have HKe := hid ((Kept.of_below HB.out).trans hKe)
      obtain ⟨e0, e1⟩ := hKe
      have hg := HR.out.glt
      have T1 := hid (S1.out.kept (e1 _ hsz0 (by omega) (by omega)))
      have T2 := hid (S2.out.kept (e1 _ hsz (by omega) (by omega)))
      clear S1 S2 HB e1 hRO hg
      generalize (workStep W q k).2 = jobs2 at *
      generalize (workStep W q k).1 = sp at *
      obtain ⟨z0, z1, z2, z3, z4⟩ := T2.out
      obtain ⟨y0, y1, y2, y3, y4⟩ := T1.out
      have hq0 : w.heap.size < w2.heap.size := by omega
      have hq1 : w.heap.size + 1 < w2.heap.size := by omega
      have c7 := RO.out.c7
      have cz := RO.out.fz
      have hq2 : R < w2.heap.size := by omega
      have hq3 : ¬ R = w.heap.size := by omega
      have hq4 : ¬ w.heap.size = R := by omega
      have n1 : w.heap.size ≠ g := by have := HR.out.glt; omega
      have n2 : w.heap.size ≠ R := by omega
      have n3 : N ≤ w.heap.size := by have := HR.out.ge; omega
      obtain ⟨kd, jb, fr, un⟩ := sp
      simp only at *
      go_wp2_with fail
      refine bodyPost_ret (v := .agg #[.int .i64 kd, .int .i64 jb, .int .i64 fr, .int .i64 un]) (res_c Try.results55 rfl (load_spell ?_ ?_ ?_ ?_)) rfl ⟨by rw [Hn.out], ?_, ?_⟩
      · go_simp
      · go_simp
      · go_simp
      · go_simp
      · rw [Hn.out]
        exact (((((RO.out.now _).setFar n2 n1 n3).setFar n2 n1 n3).setFar n2 n1 n3).setFar n2 n1 n3).at ((Below.refl _ _).alloc (Nat.le_refl _) _)
      · exact (((((HKe.out.trans (Kept.set (.inl rfl))).setNew (Nat.le_refl _)).setNew (Nat.le_refl _)).setNew (Nat.le_refl _)).setNew (Nat.le_refl _)).trans (Kept.of_below ((Below.refl _ _).alloc (Nat.le_refl _) _))

end Go.Proofs.Ytbjgebbfachgfaa
/- A walk whose frame is a function of the slot: laws for regions, tests, loops and results that do not depend on how wide the frame is. -/
namespace Go.Proofs.Ytbjgebbfachgfaa
open Go.RowKit

def evF (n : Nat) (s : Nat → Value) : Operand → Value
  | .tmp t => if t < n then s t else undef
  | .const v => v
  | .global g => .pointer (some ⟨g, 0, none⟩)
  | .func f => .func (.func f) #[] #[]
def tmA (n : Nat) (s : Nat → Value) : Array Value := (Array.range n).map s
def mkA (n : Nat) (s : Nat → Value) (ds : List Deferred) : Act := { tmps := tmA n s, defers := ds }
variable {ds : List Deferred}
@[simp] theorem mkA_tmps (n : Nat) (s : Nat → Value) : (mkA n s ds).tmps = tmA n s := rfl
theorem tmA_size (n : Nat) (s : Nat → Value) : (tmA n s).size = n := by simp [tmA]

@[simp] theorem evF_tmp (n : Nat) (s : Nat → Value) (t : Nat) : evF n s (.tmp t) = if t < n then s t else undef := rfl
@[simp] theorem evF_const (n : Nat) (s : Nat → Value) (v : Value) : evF n s (.const v) = v := rfl
@[simp] theorem evF_global (n : Nat) (s : Nat → Value) (g : Nat) : evF n s (.global g) = .pointer (some ⟨g, 0, none⟩) := rfl
@[simp] theorem evF_func (n : Nat) (s : Nat → Value) (f : Nat) : evF n s (.func f) = .func (.func f) #[] #[] := rfl
@[simp] theorem updS_some (s : Nat → Value) (d : Nat) (v : Value) (j : Nat) : updS s (some d) v j = if j = d then v else s j := rfl
@[simp] theorem updS_none (s : Nat → Value) (v : Value) : updS s none v = s := rfl

theorem mkA_get (n : Nat) (s : Nat → Value) (t : Nat) : (tmA n s)[t]? = if t < n then some (s t) else none := by
  unfold tmA
  rw [Array.getElem?_map, Array.getElem?_range]
  split <;> rfl
theorem mkA_eval (n : Nat) (s : Nat → Value) : (mkA n s ds).eval = evF n s := by
  funext o
  cases o with
  | tmp t =>
    show (tmA n s).getD t undef = if t < n then s t else undef
    rw [Array.getD_eq_getD_getElem?, mkA_get]
    split <;> rfl
  | const v => rfl
  | global g => rfl
  | func f => rfl
theorem mkA_put (n : Nat) (s : Nat → Value) (d : Option Nat) (v : Value) : (mkA n s ds).put d v = mkA n (updS s d v) ds := by
  cases d with
  | none => rfl
  | some d =>
    apply Act.ext'
    · apply Array.ext_getElem?
      intro k
      (try simp only [mkA_tmps])
      rw [mkA_get]
      simp only [Act.put, Array.getElem?_setIfInBounds, mkA_get, updS]
      have hsz : (tmA n s).size = n := by simp [tmA]
      by_cases h : d = k
      · subst h; simp [hsz]
      · have h' : ¬ k = d := fun e => h e.symm
        simp [h, h', mkA_get]
    · rfl
theorem mkA_of (a : Act) (h : a.defers = []) : a = mkA a.tmps.size (fun t => a.tmps.getD t undef) [] := by
  apply Act.ext'
  · apply Array.ext_getElem?
    intro k
    (try simp only [mkA_tmps])
    rw [mkA_get]
    split
    · rename_i hk; simp [Array.getD_eq_getD_getElem?, hk]
    · rename_i hk; rw [Array.getElem?_eq_none (by omega)]
  · exact h

@[simp] theorem mkA_get' (n : Nat) (s : Nat → Value) (t : Nat) : (tmA n s)[t]? = if t < n then some (s t) else none := mkA_get n s t
@[simp] theorem mkA_defers (n : Nat) (s : Nat → Value) : (mkA n s ds).defers = ds := rfl
@[simp] theorem mkA_fold (n : Nat) (s : Nat → Value) (d : Nat) (v : Value) : ({ tmps := (tmA n s).setIfInBounds d v, defers := ds } : Act) = mkA n (updS s (some d) v) ds := mkA_put n s (some d) v
@[simp] theorem mkA_eta (n : Nat) (s : Nat → Value) : ({ tmps := (tmA n s), defers := ds } : Act) = mkA n s ds := rfl

theorem wp_abs {P : Program} {c : Code} {Q : Exit → Act → World → Prop} {n : Nat} {S : Nat → Value} {w : World} (h : ∀ s', s' = S → c.wp P Q (mkA n s' ds) w) : c.wp P Q (mkA n S ds) w := h S rfl

/- one operation -/
def uponF (P : Program) (K : Value → World → Prop) : Result Next → Prop
  | .ok (.value v) w' => K v w'
  | .ok .skip w' => K undef w'
  | .ok (.enter f args) w' => Calls P f args w' fun e w'' => ∃ v, e = .returned v ∧ K v w''
  | .ok (.row r args) w' => Rows P r args w' K
  | _ => False
@[simp] theorem uponF_value (P : Program) (K : Value → World → Prop) (v : Value) (w : World) : uponF P K (.ok (.value v) w) = K v w := rfl
@[simp] theorem uponF_skip (P : Program) (K : Value → World → Prop) (w : World) : uponF P K (.ok .skip w) = K undef w := rfl
@[simp] theorem uponF_enter (P : Program) (K : Value → World → Prop) (f : FuncId) (args : Array Value) (w : World) : uponF P K (.ok (.enter f args) w) = Calls P f args w fun e w'' => ∃ v, e = .returned v ∧ K v w'' := rfl
def opF (P : Program) (o : Oper) (n : Nat) (s : Nat → Value) (w : World) (K : Value → World → Prop) : Prop := uponF P K ((execOp (evF n s) o).run P w)
theorem uponF.mono {P : Program} {K K' : Value → World → Prop} (h : ∀ v w, K v w → K' v w) {r : Result Next} (hh : uponF P K r) : uponF P K' r := by
  cases r with
  | ok n w' =>
    cases n with
    | value v => exact h _ _ hh
    | skip => exact h _ _ hh
    | enter f args => exact Calls.mono (h := hh) fun e w'' ⟨v, he, hk⟩ => ⟨v, he, h _ _ hk⟩
    | row r args => exact Rows.mono hh h
    | _ => exact hh
  | halt x w' => exact hh
theorem opF_wp {P : Program} {o : Oper} {n : Nat} {s : Nat → Value} {w : World} {K : Act → World → Prop} {Q : Exit → Act → World → Prop} (h : opF P o n s w fun v w' => K (mkA n (updS s o.dst v) ds) w') : o.wp P (mkA n s ds) w K Q := by
  unfold opF at h
  unfold Oper.wp
  rw [mkA_eval]
  generalize (execOp (evF n s) o).run P w = r at *
  cases r with
  | ok nx w' =>
    cases nx with
    | value v => simp only [uponF] at h; simp only [Oper.upon]; rw [mkA_put]; exact h
    | skip => simp only [uponF] at h; simp only [Oper.upon]; rw [mkA_put]; exact h
    | enter f args =>
      simp only [uponF] at h
      simp only [Oper.upon]
      exact h.mono fun e w'' ⟨v, he, hk⟩ => by subst he; show K ((mkA n s ds).put o.dst v) w''; rw [mkA_put]; exact hk
    | row r args =>
      simp only [uponF] at h
      simp only [Oper.upon]
      exact Rows.mono h fun v w'' hk => by rw [mkA_put]; exact hk
    | _ => exact (h : False).elim
  | halt x w' => exact (h : False).elim

/- a region in the order of the text -/
def listF (P : Program) (ops : Array Oper) (n : Nat) (K : (Nat → Value) → World → Prop) : List Oper → (Nat → Value) → World → Prop
  | [], s, w => K s w
  | o :: os, s, w => if Region.wanted o (yielded ops (tmA n s)) then opF P o n s w (fun v w' => listF P ops n K os (updS s o.dst v) w') else listF P ops n K os (updS s o.dst undef) w
section
variable {P : Program} {ops : Array Oper} {n : Nat} {K : (Nat → Value) → World → Prop} {o : Oper} {os : List Oper} {s : Nat → Value} {w : World}
theorem listF_nil (h : K s w) : listF P ops n K [] s w := h
theorem listF_step (hg : o.guard = none) (h : ∀ K' : Value → World → Prop, (∀ v w', listF P ops n K os (updS s o.dst v) w' → K' v w') → opF P o n s w K') : listF P ops n K (o :: os) s w := by
  unfold listF
  rw [if_pos (by simp [Region.wanted, hg])]
  exact h _ fun _ _ h => h
theorem wanted_F {j d : Nat} {b b' : Bool} (hg : o.guard = some (j, b)) (hd : (ops[j]?).bind (·.dst) = some d) (hn : d < n) (hs : s d = .bool b') : Region.wanted o (yielded ops (tmA n s)) = (b' == b) := by
  unfold Region.wanted
  rw [hg]
  simp only [yielded, hd, Option.bind_some, mkA_get, hn, if_true, hs]
  cases b <;> cases b' <;> rfl
theorem listF_yes {j d : Nat} {b : Bool} (hg : o.guard = some (j, b)) (hd : (ops[j]?).bind (·.dst) = some d) (hn : d < n) (hs : s d = .bool b) (h : ∀ K' : Value → World → Prop, (∀ v w', listF P ops n K os (updS s o.dst v) w' → K' v w') → opF P o n s w K') : listF P ops n K (o :: os) s w := by
  unfold listF
  rw [if_pos (by rw [wanted_F hg hd hn hs]; simp)]
  exact h _ fun _ _ h => h
theorem listF_no {j d : Nat} {b b' : Bool} (hg : o.guard = some (j, b)) (hd : (ops[j]?).bind (·.dst) = some d) (hn : d < n) (hs : s d = .bool b') (hb : (b' == b) = false) (h : listF P ops n K os (updS s o.dst undef) w) : listF P ops n K (o :: os) s w := by
  unfold listF
  rw [if_neg (by rw [wanted_F hg hd hn hs, hb]; simp)]
  exact h
theorem listF_nu {j d : Nat} {b : Bool} (hg : o.guard = some (j, b)) (hd : (ops[j]?).bind (·.dst) = some d) (hn : d < n) (hs : s d = undef) (h : listF P ops n K os (updS s o.dst undef) w) : listF P ops n K (o :: os) s w := by
  unfold listF
  have : Region.wanted o (yielded ops (tmA n s)) = false := by
    unfold Region.wanted
    rw [hg]
    simp only [yielded, hd, Option.bind_some, mkA_get, hn, if_true, hs]
    rfl
  rw [if_neg (by rw [this]; simp)]
  exact h
end
theorem listF_wp {P : Program} {ops : Array Oper} {n : Nat} {Q : Exit → Act → World → Prop} : ∀ (l : List Oper) (s : Nat → Value) (w : World), listF P ops n (fun s w => Q .normal (mkA n s ds) w) l s w → wpList P ops Q l (mkA n s ds) w
  | [], _, _, h => h
  | o :: os, s, w, h => by
    unfold listF at h
    refine wpList_step fun K hK => ?_
    split at h
    · rename_i hw
      rw [if_pos (show Region.wanted o (yielded ops (mkA n s ds).tmps) = true from hw)]
      refine opF_wp ?_
      exact uponF.mono (fun v w' h' => hK _ _ (listF_wp os _ _ h')) h
    · rename_i hw
      rw [if_neg (show ¬ Region.wanted o (yielded ops (mkA n s ds).tmps) = true from hw), mkA_put]
      exact hK _ _ (listF_wp os _ _ h)
theorem region_F {P : Program} {id : Nat} {l : List Oper} {n : Nat} {Q : Exit → Act → World → Prop} {s : Nat → Value} {w : World} (h : listF P l.toArray n (fun s w => Q .normal (mkA n s ds) w) l s w) : (Code.region id l.toArray false).wp P Q (mkA n s ds) w :=
  wp_region_lit (listF_wp l s w h)

/- a region that draws its order and whose operations keep a class of worlds -/
def listQ (P : Program) (ops : Array Oper) (n : Nat) (C : World → Prop) (K : (Nat → Value) → Prop) : List Oper → (Nat → Value) → Prop
  | [], s => K s
  | o :: os, s => if Region.wanted o (yielded ops (tmA n s)) then ∃ v, (∀ w, C w → Oper.quietUpon P C w v ((execOp (evF n s) o).run P w)) ∧ listQ P ops n C K os (updS s o.dst v) else listQ P ops n C K os (updS s o.dst undef)
@[simp] theorem quietUpon_value {P : Program} {C : World → Prop} {w w' : World} {u v : Value} : Oper.quietUpon P C w v (.ok (.value u) w') = (w' = w ∧ u = v) := rfl
@[simp] theorem quietUpon_enter {P : Program} {C : World → Prop} {w w' : World} {f : FuncId} {args : Array Value} {v : Value} : Oper.quietUpon P C w v (.ok (.enter f args) w') = (w' = w ∧ Calls P f args w (fun e w'' => e = .returned v ∧ C w'')) := rfl
section
variable {P : Program} {ops : Array Oper} {n : Nat} {C : World → Prop} {K : (Nat → Value) → Prop} {o : Oper} {os : List Oper} {s : Nat → Value}
theorem listQ_nil (h : K s) : listQ P ops n C K [] s := h
theorem listQ_step {v : Value} (hg : o.guard = none) (h1 : ∀ w, C w → Oper.quietUpon P C w v ((execOp (evF n s) o).run P w)) (h2 : listQ P ops n C K os (updS s o.dst v)) : listQ P ops n C K (o :: os) s := by
  unfold listQ
  rw [if_pos (by simp [Region.wanted, hg])]
  exact ⟨v, h1, h2⟩
theorem listQ_yes {v : Value} {j d : Nat} {b : Bool} (hg : o.guard = some (j, b)) (hd : (ops[j]?).bind (·.dst) = some d) (hn : d < n) (hs : s d = .bool b) (h1 : ∀ w, C w → Oper.quietUpon P C w v ((execOp (evF n s) o).run P w)) (h2 : listQ P ops n C K os (updS s o.dst v)) : listQ P ops n C K (o :: os) s := by
  unfold listQ
  rw [if_pos (by rw [wanted_F hg hd hn hs]; simp)]
  exact ⟨v, h1, h2⟩
theorem listQ_no {j d : Nat} {b b' : Bool} (hg : o.guard = some (j, b)) (hd : (ops[j]?).bind (·.dst) = some d) (hn : d < n) (hs : s d = .bool b') (hb : (b' == b) = false) (h : listQ P ops n C K os (updS s o.dst undef)) : listQ P ops n C K (o :: os) s := by
  unfold listQ
  rw [if_neg (by rw [wanted_F hg hd hn hs, hb]; simp)]
  exact h
theorem listQ_nu {j d : Nat} {b : Bool} (hg : o.guard = some (j, b)) (hd : (ops[j]?).bind (·.dst) = some d) (hn : d < n) (hs : s d = undef) (h : listQ P ops n C K os (updS s o.dst undef)) : listQ P ops n C K (o :: os) s := by
  unfold listQ
  have : Region.wanted o (yielded ops (tmA n s)) = false := by
    unfold Region.wanted
    rw [hg]
    simp only [yielded, hd, Option.bind_some, mkA_get, hn, if_true, hs]
    rfl
  rw [if_neg (by rw [this]; simp)]
  exact h
end
theorem listQ_wp {P : Program} {ops : Array Oper} {n : Nat} {C : World → Prop} {K : (Nat → Value) → Prop} {R : Act → Prop} (hR : ∀ s, K s → R (mkA n s ds)) : ∀ (l : List Oper) (s : Nat → Value), listQ P ops n C K l s → wpQuiet P ops C R l (mkA n s ds)
  | [], s, h => hR s h
  | o :: os, s, h => by
    unfold listQ at h
    unfold wpQuiet
    split at h
    · rename_i hw
      rw [if_pos (show Region.wanted o (yielded ops (mkA n s ds).tmps) = true from hw)]
      obtain ⟨v, h1, h2⟩ := h
      refine ⟨v, ?_, by rw [mkA_put]; exact listQ_wp hR os _ h2⟩
      intro w hw'
      unfold Oper.quietAt
      rw [mkA_eval]; exact h1 w hw'
    · rename_i hw
      rw [if_neg (show ¬ Region.wanted o (yielded ops (mkA n s ds).tmps) = true from hw), mkA_put]
      exact listQ_wp hR os _ h
theorem regionQ_F {P : Program} {id : Nat} {l : List Oper} {n : Nat} {Q : Exit → Act → World → Prop} {s : Nat → Value} {w : World} (C : World → Prop) (hm : P.follows .mixedOrders = true) (hB : Region.lexB .any l.toArray = true) (hC : C w.drew)
    (h : listQ P l.toArray n C (fun s => ∀ w', C w' → Q .normal (mkA n s ds) w') l s) : (Code.region id l.toArray true).wp P Q (mkA n s ds) w :=
  wp_region_quiet (C := C) hm hB hC (by
    have := listQ_wp (R := fun a' => ∀ w', C w' → Q .normal a' w') (fun s hs => hs) l s h
    simpa using this)

/- .. whose operations but the last ones leave the world as it is -/
def stillF (P : Program) (w : World) (K : Value → Prop) : Result Next → Prop
  | .ok (.value v) w' => w' = w ∧ K v
  | .ok .skip w' => w' = w ∧ K undef
  | .ok (.enter f args) w' => w' = w ∧ ∃ v, Calls P f args w (fun e w'' => e = .returned v ∧ w'' = w) ∧ K v
  | _ => False
@[simp] theorem stillF_value (P : Program) (w w' : World) (K : Value → Prop) (v : Value) : stillF P w K (.ok (.value v) w') = (w' = w ∧ K v) := rfl
@[simp] theorem stillF_enter (P : Program) (w w' : World) (K : Value → Prop) (f : FuncId) (args : Array Value) : stillF P w K (.ok (.enter f args) w') = (w' = w ∧ ∃ v, Calls P f args w (fun e w'' => e = .returned v ∧ w'' = w) ∧ K v) := rfl
def listS (P : Program) (ops : Array Oper) (n : Nat) (w : World) (K : (Nat → Value) → Prop) : List Oper → (Nat → Value) → Prop
  | [], s => K s
  | o :: os, s => if Region.wanted o (yielded ops (tmA n s)) then stillF P w (fun v => listS P ops n w K os (updS s o.dst v)) ((execOp (evF n s) o).run P w) else listS P ops n w K os (updS s o.dst undef)
section
variable {P : Program} {ops : Array Oper} {n : Nat} {w : World} {K : (Nat → Value) → Prop} {o : Oper} {os : List Oper} {s : Nat → Value}
theorem listS_nil (h : K s) : listS P ops n w K [] s := h
theorem listS_step (hg : o.guard = none) (h : ∀ K' : Value → Prop, (∀ v, listS P ops n w K os (updS s o.dst v) → K' v) → stillF P w K' ((execOp (evF n s) o).run P w)) : listS P ops n w K (o :: os) s := by
  unfold listS
  rw [if_pos (by simp [Region.wanted, hg])]
  exact h _ fun _ h => h
end
theorem listS_wp {P : Program} {ops : Array Oper} {n : Nat} {w : World} {K : (Nat → Value) → Prop} {R : Act → Prop} (hR : ∀ s, K s → R (mkA n s ds)) : ∀ (l : List Oper) (s : Nat → Value), listS P ops n w K l s → wpStill P ops w R l (mkA n s ds)
  | [], s, h => hR s h
  | o :: os, s, h => by
    unfold listS at h
    unfold wpStill
    split at h
    · rename_i hw
      rw [if_pos (show Region.wanted o (yielded ops (mkA n s ds).tmps) = true from hw)]
      unfold Oper.still
      rw [mkA_eval]
      generalize (execOp (evF n s) o).run P w = r at *
      cases r with
      | ok nx w' =>
        cases nx with
        | value v => simp only [stillF] at h; simp only [Oper.stillUpon]; rw [mkA_put]; exact ⟨h.1, listS_wp hR os _ h.2⟩
        | skip => simp only [stillF] at h; simp only [Oper.stillUpon]; rw [mkA_put]; exact ⟨h.1, listS_wp hR os _ h.2⟩
        | enter f args =>
          simp only [stillF] at h
          simp only [Oper.stillUpon]
          obtain ⟨h1, v, h2, h3⟩ := h
          exact ⟨h1, v, h2, by rw [mkA_put]; exact listS_wp hR os _ h3⟩
        | _ => exact (h : False).elim
      | halt x w' => exact (h : False).elim
    · rename_i hw
      rw [if_neg (show ¬ Region.wanted o (yielded ops (mkA n s ds).tmps) = true from hw), mkA_put]
      exact listS_wp hR os _ h
theorem regionT_F {P : Program} {id : Nat} {l : List Oper} {n : Nat} {Q : Exit → Act → World → Prop} {s : Nat → Value} {w : World} (k : Nat) (hm : P.follows .mixedOrders = true) (hB : Region.lexTailB .any l.toArray k = true)
    (h : listS P l.toArray n w.drew (fun s => listF P l.toArray n (fun s w => Q .normal (mkA n s ds) w) (l.drop k) s w.drew) (l.take k) s) : (Code.region id l.toArray true).wp P Q (mkA n s ds) w :=
  wp_region_still_tail k hm hB (listS_wp (R := fun a' => wpList P l.toArray Q (l.drop k) a' w.drew) (fun s hs => listF_wp _ s _ hs) _ s h)

/- .. by an invariant -/
def invF (P : Program) (ops : Array Oper) (n : Nat) (J : (Nat → Bool) → (Nat → Value) → World → Prop) : Nat → List Oper → Prop
  | _, [] => True
  | i, o :: os => (∀ (L : Nat → Bool) (s : Nat → Value) (w : World), L i = false → (∀ e ∈ o.after.toList, Region.binds .any e = true → L e.on = true) → J L s w →
      (∀ K : Value → World → Prop, (∀ v w', J (upd L i) (updS s o.dst v) w' → K v w') →
        if Region.wanted o (yielded ops (tmA n s)) then opF P o n s w K else K undef w)) ∧ invF P ops n J (i + 1) os
theorem invF_steps {P : Program} {ops : Array Oper} {n : Nat} {Q : Exit → Act → World → Prop} {J : (Nat → Bool) → (Nat → Value) → World → Prop} {s0 : Nat → Value} : ∀ (l : List Oper) (i : Nat), (∀ o ∈ l, ∀ d, o.dst = some d → d < n) → invF P ops n J i l → invSteps P ops Q (mkA n s0 ds) (List.range n) J i l
  | [], _, _, _ => trivial
  | o :: os, i, hd, h => by
    refine ⟨?_, invF_steps os (i + 1) (fun o ho => hd o (List.mem_cons_of_mem _ ho)) h.2⟩
    intro L s w hL hdp hJ K hK
    have hset : setAll (mkA n s0 ds) (List.range n) s = mkA n s ds := by
      apply Act.ext'
      · apply Array.ext_getElem?
        intro k
        (try simp only [mkA_tmps])
        rw [setAll_get]; show (if k ∈ List.range n ∧ k < (tmA n s0).size then some (s k) else (tmA n s0)[k]?) = (tmA n s)[k]?; rw [mkA_get, mkA_get]
        have hsz : (tmA n s0).size = n := by simp [tmA]
        rw [hsz]
        by_cases hk : k < n
        · simp [hk]
        · simp [hk]
      · rw [setAll_defers]; rfl
    rw [hset] at hK ⊢
    have h1 := h.1 L s w hL hdp hJ (fun v w' => K (mkA n (updS s o.dst v) ds) w') (fun v w' hj => by have := hK v w' hj; rwa [mkA_put] at this)
    split
    · rename_i hw; rw [if_pos (show Region.wanted o (yielded ops (tmA n s)) = true from hw)] at h1; exact opF_wp h1
    · rename_i hw; rw [if_neg (show ¬ Region.wanted o (yielded ops (tmA n s)) = true from hw)] at h1; rw [mkA_put]; exact h1
theorem regionI_F {P : Program} {id : Nat} {l : List Oper} {n : Nat} {Q : Exit → Act → World → Prop} {s : Nat → Value} {w : World} (J : (Nat → Bool) → (Nat → Value) → World → Prop)
    (hm : P.follows .mixedOrders = true) (hb : backB l.toArray = true) (hd : dstB l.toArray (List.range n) = true)
    (h0 : J (fun _ => false) (fun d => if d < n then s d else undef) w.drew)
    (he : ∀ s w, J (fun j => decide (j < l.length)) s w → Q .normal (mkA n s ds) w)
    (hs : invF P l.toArray n J 0 l) : (Code.region id l.toArray true).wp P Q (mkA n s ds) w := by
  have hset : ∀ s', setAll (mkA n s ds) (List.range n) s' = mkA n s' ds := by
    intro s'
    apply Act.ext'
    · apply Array.ext_getElem?
      intro k
      (try simp only [mkA_tmps])
      rw [setAll_get]; show (if k ∈ List.range n ∧ k < (tmA n s).size then some (s' k) else (tmA n s)[k]?) = (tmA n s')[k]?; rw [mkA_get, mkA_get]
      have hsz : (tmA n s).size = n := by simp [tmA]
      rw [hsz]
      by_cases hk : k < n
      · simp [hk]
      · simp [hk]
    · rw [setAll_defers]; rfl
  refine wp_region_inv (List.range n) J hm hb hd ?_ ?_ (invF_steps l 0 ?_ hs)
  · have : (fun d => (tmA n s).getD d undef) = fun d => if d < n then s d else undef := by
      funext d
      rw [Array.getD_eq_getD_getElem?, mkA_get]; split <;> rfl
    show J (fun _ => false) (fun d => (tmA n s).getD d undef) w.drew
    rw [this]; exact h0
  · intro s' w' hj; rw [hset]; exact he s' w' hj
  · intro o ho d hdst
    unfold dstB at hd
    rw [Array.all_eq_true] at hd
    obtain ⟨i, hi, rfl⟩ := List.mem_iff_getElem.1 ho
    have := hd i (by simpa using hi)
    simp only [List.getElem_toArray, hdst] at this
    simpa using this

/- entering, tests, loops, results -/
theorem enter_F {P : Program} {f : FuncId} {fn : Func} {c : Code} {args : Array Value} {w : World} {R : Ending → World → Prop} {n : Nat} (hf : P.funcs[f]? = some fn) (hb : fn.body = some c) (hn : fn.ntmps = n) (ha : args.size ≤ n)
    (h : ∀ s : Nat → Value, (∀ i, i < args.size → s i = args[i]?.getD undef) → c.wp P (bodyPost P fn R) (mkA n s []) w) : Calls P f args w R := by
  refine calls_of_wp hf hb ?_
  rw [hn]
  have hmk := mkA_of { tmps := args ++ Array.replicate (n - args.size) undef, defers := [] } rfl
  have hsz : (args ++ Array.replicate (n - args.size) undef).size = n := by simp; omega
  rw [hmk]
  simp only [hsz]
  refine h _ fun i hi => ?_
  simp [Array.getD_eq_getD_getElem?, Array.getElem?_append_left, hi]
theorem cond_F {P : Program} {c : Operand} {x y : Code} {n : Nat} {Q : Exit → Act → World → Prop} {s : Nat → Value} {w : World} (b : Bool) (hc : evF n s c = .bool b) (h : (if b then x else y).wp P Q (mkA n s ds) w) : (Code.cond c x y).wp P Q (mkA n s ds) w :=
  wp_cond (by rw [mkA_eval]; exact hc) h
theorem least_ex {p : Nat → Prop} (h : ∃ k, p k) : ∃ k, p k ∧ ∀ j, p j → k ≤ j := by
  obtain ⟨k, hk⟩ := h
  induction k using Nat.strongRecOn with
  | _ k ih =>
    by_cases hj : ∃ j, j < k ∧ p j
    · obtain ⟨j, hjk, hp⟩ := hj; exact ih j hjk hp
    · exact ⟨k, hk, fun j hp => by rcases Nat.lt_or_ge j k with h | h; exact absurd ⟨j, h, hp⟩ hj; exact h⟩
theorem loop_F {P : Program} {c : Code} {n : Nat} {Q : Exit → Act → World → Prop} (J : Nat → (Nat → Value) → World → Prop) {k0 : Nat} {s0 : Nat → Value} {w0 : World} (h0 : J k0 s0 w0)
    (round : ∀ k s w, J k s w → c.wp P (Exit.then (fun a' w' => ∃ k' s', a' = mkA n s' ds ∧ k' < k ∧ J k' s' w') Q) (mkA n s ds) w) : (Code.loop c).wp P Q (mkA n s0 ds) w0 := by
  classical
  let p : Act → World → Nat → Prop := fun a w k => ∃ s, a = mkA n s ds ∧ J k s w
  let μ : Act → World → Nat := fun a w => if h : ∃ k, p a w k then Classical.choose (least_ex h) else 0
  refine wp_loop (fun a w => ∃ k, p a w k) μ ⟨k0, s0, rfl, h0⟩ ?_
  intro a w hI
  have hμ : μ a w = Classical.choose (least_ex hI) := by show (if h : _ then _ else _) = _; rw [dif_pos hI]
  obtain ⟨⟨s, rfl, hJ⟩, hmin⟩ := Classical.choose_spec (least_ex hI)
  refine wp_mono (round _ s w hJ) ?_
  intro e a' w' h
  cases e with
  | normal =>
    obtain ⟨k', s', rfl, hlt, hJ'⟩ := h
    have hI' : ∃ k, p (mkA n s' ds) w' k := ⟨k', s', rfl, hJ'⟩
    refine ⟨hI', ?_⟩
    have hμ' : μ (mkA n s' ds) w' = Classical.choose (least_ex hI') := by show (if h : _ then _ else _) = _; rw [dif_pos hI']
    rw [hμ, hμ']
    exact Nat.lt_of_le_of_lt ((Classical.choose_spec (least_ex hI')).2 k' ⟨s', rfl, hJ'⟩) hlt
  | exit id => exact h
  | goto l => exact h
  | ret => exact h
  | panic ch => exact h
  | outgrown => exact h

theorem getD_F {n : Nat} {s : Nat → Value} {t : Nat} (h : t < n) : (tmA n s).getD t undef = s t := by
  rw [Array.getD_eq_getD_getElem?, mkA_get, if_pos h]; rfl
theorem ret_F {P : Program} {fn : Func} {R : Ending → World → Prop} {n : Nat} {s : Nat → Value} {w : World} (v : Value) (hr : (results fn (tmA n s)).run P w = .ok v w) (h : R (.returned v) w) : bodyPost P fn R .ret (mkA n s []) w := ⟨rfl, v, hr, h⟩
theorem res1_F {P : Program} {fn : Func} {p n : Nat} {s : Nat → Value} {w : World} {v : Value} (h : fn.results = #[.tmp p]) (hp : p < n) (hv : s p = v) : (results fn (tmA n s)).run P w = .ok v w := by
  subst hv
  simp only [results, h]
  simp [hp]

/-- block b reads as the cells l, and may be written -/
def Cells (w : World) (b : Nat) (l : List Value) : Prop := b < w.heap.size ∧ (∀ i v, l[i]? = some v → w.cell? ⟨b, i, none⟩ = some v) ∧ ∀ o, w.frozen? ⟨b, o, none⟩ = false
theorem Cells.at {w w' : World} {b : Nat} {l : List Value} (h : Cells w b l) (hb : Below w.heap.size w w') : Cells w' b l := by
  obtain ⟨e, f⟩ := bcell hb
  exact ⟨Nat.lt_of_lt_of_le h.1 hb.size, fun i v hv => (e b i h.1).trans (h.2.1 i v hv), fun o => (f b o h.1).trans (h.2.2 o)⟩
theorem Cells.up {w : World} {b : Nat} {l : List Value} (h : Cells w b l) (o : Obj) : Cells (w.alloc o) b l := h.at ((Below.refl _ _).alloc (Nat.le_refl _) _)
theorem Cells.drew {w : World} {b : Nat} {l : List Value} (h : Cells w b l) : Cells w.drew b l := h
theorem Cells.setFar {w : World} {b Y o : Nat} {l : List Value} {u : Value} (h : Cells w b l) (hn : b ≠ Y) : Cells (w.setCell ⟨Y, o, none⟩ u) b l :=
  ⟨by simpa using h.1, fun i v hv => (World.cell?_setCell_other _ _ _ _ (fun e => by cases e; exact hn rfl)).trans (h.2.1 i v hv), fun o => by rw [World.frozen?_setCell]; exact h.2.2 o⟩
theorem Cells.set {w : World} {b i : Nat} {l : List Value} {u : Value} (h : Cells w b l) : Cells (w.setCell ⟨b, i, none⟩ u) b (l.set i u) := by
  refine ⟨by simpa using h.1, fun j v hv => ?_, fun o => by rw [World.frozen?_setCell]; exact h.2.2 o⟩
  by_cases hij : i = j
  · subst hij
    rw [List.getElem?_set] at hv
    simp only [if_true] at hv
    split at hv
    · rename_i hl
      cases hv
      have hc := h.2.1 i _ (List.getElem?_eq_getElem hl)
      exact World.cell?_setCell_same' _ _ _ (by rw [hc]; rfl)
    · cases hv
  · rw [List.getElem?_set_ne hij] at hv
    exact (World.cell?_setCell_other _ _ _ _ (fun e => by cases e; exact hij rfl)).trans (h.2.1 j v hv)
theorem Cells.new {w : World} {cs : Array Value} {T : TypeId} {N : Nat} (hN : w.heap.size = N) : Cells (w.alloc (.cells cs T)) N cs.toList := by
  subst hN
  obtain ⟨X, l, hp, _, h2, _, h4, h5, h6⟩ := Box.new (N := w.heap.size) (m := cs.size) (w := w) (cs := cs) (T := T) (C := True) (c := cs.toList) (Nat.le_refl _) rfl (fun _ => rfl)
  cases hp
  rw [h6 trivial] at h4
  exact ⟨h2, h4, h5⟩
theorem Cells.cell {w : World} {b : Nat} {l : List Value} (h : Cells w b l) (i : Nat) {v : Value} (hv : l[i]? = some v) : w.cell? ⟨b, i, none⟩ = some v := h.2.1 i v hv

/-- while the named results of a call are handed back: two blocks read, written back as they were, a third result set -/
def RetJ (N : Nat) (w0 : World) (S A : Nat) (lS lA : List Value) (tS tA tE d1 d2 k : Nat) (e : Value) (L : Nat → Bool) (s : Nat → Value) (w : World) : Prop :=
  Cells w S lS ∧ Cells w A lA ∧ Below N w0 w ∧ s tS = .pointer (some ⟨S, 0, none⟩) ∧ s tA = .pointer (some ⟨A, 0, none⟩) ∧ (L 0 = true → s d1 = .agg lS.toArray) ∧ (L 1 = true → s d2 = .agg lA.toArray) ∧ (L k = true → s tE = e)

/-- a variable's block, made in the region itself: c says whether it has been set -/
def BoxJ (N : Nat) (w : World) (p : Value) (c : Bool) (Z V : List Value) : Prop := ∃ X, p = .pointer (some ⟨X, 0, none⟩) ∧ N ≤ X ∧ Cells w X (if c then V else Z)
theorem BoxJ.at {N : Nat} {w w' : World} {p : Value} {c : Bool} {Z V : List Value} (h : BoxJ N w p c Z V) (hb : Below w.heap.size w w') : BoxJ N w' p c Z V := by
  obtain ⟨X, h1, h2, h3⟩ := h; exact ⟨X, h1, h2, h3.at hb⟩
theorem BoxJ.setFar {N : Nat} {w : World} {p : Value} {c : Bool} {Z V : List Value} {Y o : Nat} {u : Value} (h : BoxJ N w p c Z V) (hY : p ≠ .pointer (some ⟨Y, 0, none⟩)) : BoxJ N (w.setCell ⟨Y, o, none⟩ u) p c Z V := by
  obtain ⟨X, h1, h2, h3⟩ := h
  exact ⟨X, h1, h2, h3.setFar (fun e => hY (by rw [h1, e]))⟩
theorem BoxJ.setOld {N : Nat} {w : World} {p : Value} {c : Bool} {Z V : List Value} {Y o : Nat} {u : Value} (h : BoxJ N w p c Z V) (hY : Y < N) : BoxJ N (w.setCell ⟨Y, o, none⟩ u) p c Z V := by
  obtain ⟨X, h1, h2, h3⟩ := h
  exact ⟨X, h1, h2, h3.setFar (by omega)⟩
theorem BoxJ.new {N : Nat} {w : World} {cs : Array Value} {T : TypeId} {c : Bool} {Z V : List Value} (hN : N ≤ w.heap.size) (hc : c = false) (hZ : cs.toList = Z) : BoxJ N (w.alloc (.cells cs T)) (.pointer (some ⟨w.heap.size, 0, none⟩)) c Z V := by
  subst hc hZ; exact ⟨_, rfl, hN, Cells.new rfl⟩
theorem BoxJ.lt {N : Nat} {w : World} {p : Value} {c : Bool} {Z V : List Value} (h : BoxJ N w p c Z V) : p ≠ .pointer (some ⟨w.heap.size, 0, none⟩) := by
  obtain ⟨X, h1, _, h3⟩ := h
  intro e
  rw [h1] at e; cases e
  exact Nat.lt_irrefl _ h3.1

end Go.Proofs.Ytbjgebbfachgfaa
/- waits: the program's, through slices.ContainsFunc. -/
namespace Go.Proofs.Ytbjgebbfachgfaa
open Go.RowKit

set_option maxHeartbeats 400000 in
theorem wclos_any (s : St) (w : World) :
    Calls Try.prog 64 #[.agg #[.int .i64 s.progress, .int .i64 s.since, .int .i64 s.charge, .int .i64 s.why, .int .i64 s.ended]] w fun e w' => e = .returned (.bool (s.why == 0)) ∧ Below w.heap.size w w' := by
  go_enter Try.func64, Try.ntmps64
  go_wp2_with fail
  go_ret
  exact ⟨rfl, (by repeat (first | (with_reducible exact Below.refl _ _) | (with_reducible refine bdrewN ?_ _) | (with_reducible refine Below.drew ?_) | (with_reducible refine Below.setCell ?_ (by first | omega | (simp; done) | (simp; omega)) _) | (with_reducible refine Below.alloc ?_ (by first | omega | (simp; done) | (simp; omega)) _)))⟩

def IdxRes (l : List St) (w : World) (e : Ending) (w' : World) : Prop := ∃ r : Int, e = .returned (.int .i64 r) ∧ decide (0 ≤ r) = waits l ∧ Below w.heap.size w w'

set_option maxHeartbeats 1000000 in
theorem indexFunc_any (a : Option Addr) (c : Nat) (l : List St) (w : World) (hl : l.length ≤ 9223372036854775807) (ha : RdSts w a l) :
    Calls Try.prog 71 #[.slice a l.length c, .func (.func 64) #[] #[]] w (IdxRes l w) := by
  go_enter Try.func71, Try.ntmps71
  go_wp2_with fail
  go_loopw [5, 8] (fun _ i wr => ∃ k : Nat, k ≤ l.length ∧ i = .int .i64 k ∧ Hid ((l.take k).any (fun s => s.why == 0) = false) ∧ Below w.heap.size w wr) (fun _ i _ => l.length - (intOf i).toNat)
  case atStart => exact ⟨0, Nat.zero_le _, rfl, hid rfl, Below.refl _ _⟩
  case round =>
    obtain ⟨k, hk, rfl, hw, hB⟩ := hrel
    obtain ⟨hc, hf⟩ := bcell hB
    by_cases hlt : k < l.length
    · obtain ⟨b, off, rfl, hb, h0, h1, h2, h3, h4⟩ := RdSts.ne ha hlt
      rcases beq_or l[k].why 0 with t1 | t1
      · go_wp2_with (go_at_call 64; refine (wclos_any l[k] _).mono ?_; rintro e w2 ⟨rfl, hb2⟩)
        go_ret
        exact ⟨_, rfl, by rw [show waits l = true from any_of_get _ l k hlt t1]; simp, hB.trans (hb2.mono hB.size)⟩
      · go_wp2_with (go_at_call 64; refine (wclos_any l[k] _).mono ?_; rintro e w2 ⟨rfl, hb2⟩)
        go_roundw
        case rel => exact ⟨k + 1, by omega, by go_num, hid (by rw [any_take_succ _ _ _ hlt, hw.out, t1]; rfl), hB.trans (hb2.mono hB.size)⟩
        case measure => simp [intOf]; omega
    · go_wp2_with fail
      go_ret
      refine ⟨_, rfl, ?_, hB⟩
      have := hw.out
      rw [List.take_of_length_le (by omega)] at this
      rw [show waits l = false from this]; rfl

set_option maxHeartbeats 1000000 in
theorem containsFunc_any (a : Option Addr) (c : Nat) (l : List St) (w : World) (hl : l.length ≤ 9223372036854775807) (ha : RdSts w a l) :
    Calls Try.prog 63 #[.slice a l.length c, .func (.func 64) #[] #[]] w fun e w' => e = .returned (.bool (waits l)) ∧ Below w.heap.size w w' := by
  go_enter Try.func63, Try.ntmps63
  go_wp2_with fail
  refine (indexFunc_any a c l _ hl ha).mono ?_
  rintro e w1 ⟨r, rfl, hr, hb1⟩
  have Hr := hid hr; clear hr
  go_wp2_with fail
  go_ret
  exact ⟨ret_bool (by rw [← Hr.out]), hb1⟩

/-- the program's waits, at a queue in memory whose Jobs lie at cell o + 1 -/
theorem qwaits_any (b o : Nat) (a : Option Addr) (c : Nat) (l : List St) (w : World) (hl : l.length ≤ 9223372036854775807) (ha : RdSts w a l) (hj : w.cell? ⟨b, o + 1, none⟩ = some (.slice a l.length c)) :
    Calls Try.prog 54 #[.pointer (some ⟨b, o, none⟩)] w fun e w' => e = .returned (.bool (waits l)) ∧ Below w.heap.size w w' := by
  go_enter Try.func54, Try.ntmps54
  go_wp2_with (go_at_call 63; refine (containsFunc_any a c l _ hl ha).mono ?_; rintro e w1 ⟨rfl, hb1⟩)
  go_ret
  exact ⟨rfl, hb1⟩

end Go.Proofs.Ytbjgebbfachgfaa
/- slices.Clone at the states. -/
namespace Go.Proofs.Ytbjgebbfachgfaa
open Go.RowKit

theorem Rd.flat' {α : Type} {f : α → List Value} {m : Nat} (hf : ∀ x, (f x).length = m) {w : World} {b off : Nat} : ∀ {l : List α}, (∀ i x, l[i]? = some x → ∀ j v, (f x)[j]? = some v → w.cell? ⟨b, off + i * m + j, none⟩ = some v) → ∀ j u, (l.flatMap f)[j]? = some u → w.cell? ((⟨b, off, none⟩ : Addr).add j) = some u := by
  intro l h j u hu
  have hadd : (⟨b, off, none⟩ : Addr).add j = ⟨b, off + j, none⟩ := by unfold Addr.add; split <;> simp_all
  rw [hadd]
  clear hadd
  induction l generalizing off j with
  | nil => simp at hu
  | cons x l ih =>
    simp only [List.flatMap_cons] at hu
    by_cases hj : j < m
    · rw [List.getElem?_append_left (by rw [hf]; exact hj)] at hu
      have := h 0 x rfl j u hu
      simpa using this
    · rw [List.getElem?_append_right (by rw [hf]; omega), hf] at hu
      have := ih (off := off + m) (fun i y hi j' v hv => by
        have := h (i + 1) y hi j' v hv
        rw [Nat.succ_mul] at this
        rw [show off + m + i * m + j' = off + (i * m + m) + j' by omega]; exact this) (j - m) hu
      rw [show off + j = off + m + (j - m) by omega]; exact this
theorem flat_len' {α : Type} {f : α → List Value} {m : Nat} (hf : ∀ x, (f x).length = m) : ∀ l : List α, (l.flatMap f).length = l.length * m
  | [] => by simp
  | x :: l => by simp only [List.flatMap_cons, List.length_append, flat_len' hf l, List.length_cons, hf, Nat.succ_mul]; omega
theorem st_one' (l : List St) : ∀ u ∈ l.flatMap St.cs, u.oneCell' = true := by
  intro u hu
  obtain ⟨s, _, hs⟩ := List.mem_flatMap.1 hu
  simp [St.cs] at hs
  rcases hs with rfl | rfl | rfl | rfl | rfl <;> rfl

set_option maxRecDepth 100000 in
set_option maxHeartbeats 1000000 in
theorem clone_any (b off : Nat) (c : Nat) (l : List St) (w : World) (hl : l.length ≤ 12) (hne : 0 < l.length) (ha : RdSts w (some ⟨b, off, none⟩) l) :
    Calls Try.prog 53 #[.slice (some ⟨b, off, none⟩) l.length c] w fun e w' => ∃ g cap, e = .returned (.slice (some ⟨g, 0, none⟩) l.length cap) ∧ OwnSts w.heap.size w' (.slice (some ⟨g, 0, none⟩) l.length cap) l ∧ Below w.heap.size w w' := by
  obtain ⟨i0, hi0, hz0, hz1, hz2⟩ := info_parts info_st
  have hcells : b < w.heap.size ∧ ∀ i x, l[i]? = some x → ∀ j v, (St.cs x)[j]? = some v → w.cell? ⟨b, off + i * 5 + j, none⟩ = some v := by
    rcases ha with h | ⟨b', off', he, hlt, hc⟩
    · simp [h] at hne
    · cases he; exact ⟨hlt, hc⟩
  obtain ⟨hb, hcells⟩ := hcells
  have hnews : ∀ j u, (l.flatMap St.cs)[j]? = some u → (w.alloc (.cells #[] 70)).cell? ((⟨b, off, none⟩ : Addr).add j) = some u := by
    refine Rd.flat' (f := St.cs) (m := 5) (fun _ => rfl) fun i x hi j v hv => ?_
    rw [(below_alloc1 w (.cells #[] 70)).cell (p := ⟨b, _, none⟩) hb]; exact hcells i x hi j v hv
  have Hnews := hid hnews; clear hnews hcells
  have Hown := hid (World.ownsRow_made (e := 70) (size := 5) (base := w.heap.size) w #[] 0 (Nat.le_refl _) (by unfold maxLen; omega) (by simp))
  have Hfl := hid (flat_len' (f := St.cs) (m := 5) (fun _ => rfl) l)
  have Hone := hid (st_one' l)
  have hm1 : 0 + l.length ≤ maxLen := by unfold maxLen; omega
  have hm2 : (0 + l.length) * 40 ≤ 140737488355328 := by omega
  have hnil : ∀ w, (binOp .eql 31 (.slice (some ⟨b, off, none⟩) l.length c) (.slice none 0 0)).run Try.prog w = .ok (.bool false) w := fun w => Lib.run_eql_slice_nil w _ _ _ _ _ _ _ Try.underlying31
  have hs0 : w.heap.size < w.heap.size + 1 := by omega
  go_enter Try.func53, Try.ntmps53
  go_wp2_with (at_builtin; refine wpList_append_own _ rfl _ _ 31 rfl w.heap.size 70 i0 _ 5 40 Try.underlying31 hi0 hz0 hz1 hz2 rfl (by decide) _ 0 [] rfl Hown.out ⟨b, off, none⟩ l.length c (l.flatMap St.cs) rfl Hfl.out Hnews.out Hone.out hm1 hm2 (by simp) ?_; intro v5 w5 ho5 hg5 _)
  go_ret
  have hg5' := hg5.size
  obtain ⟨g, cap, hv⟩ : ∃ g cap, v5 = .slice (some ⟨g, 0, none⟩) l.length cap := by
    rcases ho5.2 with ⟨_, h0⟩ | ⟨g, cap, _, hv, _⟩
    · omega
    · exact ⟨g, cap, by simpa using hv⟩
  subst hv
  refine ⟨g, cap, rfl, Own.of (n := l.length) rfl rfl (by simpa using ho5), ?_⟩
  exact ((Below.refl _ w).alloc (Nat.le_refl _) _).grown hg5 (by simp) (fun k hk => by cases hk; exact Nat.le_refl _)

end Go.Proofs.Ytbjgebbfachgfaa
/- slices.Clone of an empty list of states. -/
namespace Go.Proofs.Ytbjgebbfachgfaa
open Go.RowKit

set_option maxRecDepth 100000 in
set_option maxHeartbeats 1000000 in
theorem clone0_any (a : Option Addr) (c : Nat) (w : World) :
    Calls Try.prog 53 #[.slice a 0 c] w fun e w' => ∃ a' c', e = .returned (.slice a' 0 c') ∧ Below w.heap.size w w' := by
  obtain ⟨i0, hi0, hz0, hz1, hz2⟩ := info_parts info_st
  cases a with
  | none =>
    have hnil : ∀ w, (binOp .eql 31 (.slice none 0 c) (.slice none 0 0)).run Try.prog w = .ok (.bool true) w := fun w => Lib.run_eql_slice_nil w _ _ _ _ _ _ _ Try.underlying31
    go_enter Try.func53, Try.ntmps53
    go_wp2_with fail
    go_ret
    exact ⟨none, 0, rfl, Below.refl _ _⟩
  | some p =>
    have Hown := hid (World.ownsRow_made (e := 70) (size := 5) (base := w.heap.size) w #[] 0 (Nat.le_refl _) (by unfold maxLen; omega) (by simp))
    have hnil : ∀ w, (binOp .eql 31 (.slice (some p) 0 c) (.slice none 0 0)).run Try.prog w = .ok (.bool false) w := fun w => Lib.run_eql_slice_nil w _ _ _ _ _ _ _ Try.underlying31
    have hm1 : 0 + 0 ≤ maxLen := by unfold maxLen; omega
    go_enter Try.func53, Try.ntmps53
    go_wp2_with (at_builtin; refine wpList_append_own _ rfl _ _ 31 rfl w.heap.size 70 i0 _ 5 40 Try.underlying31 hi0 hz0 hz1 hz2 rfl (by decide) _ 0 [] rfl Hown.out p 0 c [] rfl rfl (by intro j u h; simp at h) (by simp) hm1 (by omega) (by simp) ?_; intro v5 w5 ho5 hg5 _)
    go_ret
    have hB : Below w.heap.size w w5 := ((Below.refl _ w).alloc (Nat.le_refl _) _).grown hg5 (by simp) (fun k hk => by cases hk; exact Nat.le_refl _)
    rcases ho5.2 with ⟨hv, h0⟩ | ⟨g, cap, _, hv, _⟩
    · subst hv; exact ⟨⟨none, 0, rfl⟩, hB⟩
    · subst hv; exact ⟨⟨some ⟨g, 0, none⟩, cap, rfl⟩, hB⟩

end Go.Proofs.Ytbjgebbfachgfaa
