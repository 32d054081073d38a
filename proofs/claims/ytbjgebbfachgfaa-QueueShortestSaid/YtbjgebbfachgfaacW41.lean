/- Bill: the program's, whose minutes lie in a map. -/
import Derived.OpenShut
import Derived.Maps.Own
import Derived.Maps.Views
import Derived.Test.YtbjgebbfachgfaacW40
import Derived.Test.YtbjgebbfachgfaacW38
import Derived.Test.YtbjgebbfachgfaacPure10
set_option linter.unusedVariables false
set_option linter.unusedSimpArgs false
set_option linter.unusedSectionVars false
set_option linter.all false
namespace Go.Proofs.Ytbjgebbfachgfaa
open Go.RowKit Go.Maps Go.WideMaps

/-- the minutes of a kind -/
def kmin (l : List Spell) (k : Int) : Int := l.foldl (fun n s => if s.kind == k then n + (s.until0 - s.from0) else n) 0
theorem kmin_snoc (l : List Spell) (s : Spell) (k : Int) : kmin (l ++ [s]) k = if s.kind == k then kmin l k + (s.until0 - s.from0) else kmin l k := by unfold kmin; rw [List.foldl_append]; rfl
theorem kmin_bd (k : Int) : ∀ l : List Spell, (∀ s ∈ l, 0 ≤ s.until0 - s.from0 ∧ s.until0 - s.from0 ≤ 10000) → 0 ≤ kmin l k ∧ kmin l k ≤ 10000 * l.length := by
  refine snoc_ind ?_ ?_
  · intro _; simp [kmin]
  · intro l s ih h
    have h1 := ih (fun s hs => h s (by simp [hs]))
    have h2 := h s (by simp)
    rw [kmin_snoc]
    have : ((l ++ [s]).length : Int) = l.length + 1 := by simp
    split <;> omega
theorem totals_kmin : ∀ l : List Spell, (∀ s ∈ l, 1 ≤ s.kind ∧ s.kind ≤ 6) → totals l = ⟨kmin l 1 + kmin l 2 + kmin l 3, kmin l 4, kmin l 5, kmin l 6⟩ := by
  refine snoc_ind ?_ ?_
  · intro _; rfl
  · intro l s ih h
    rw [totals_app, ih (fun s hs => h s (by simp [hs]))]
    obtain ⟨h1, h2⟩ := h s (by simp)
    simp only [kmin_snoc]
    obtain ⟨k, j, f, u⟩ := s
    simp only at h1 h2 ⊢
    have hk : k = 1 ∨ k = 2 ∨ k = 3 ∨ k = 4 ∨ k = 5 ∨ k = 6 := by omega
    rcases hk with rfl | rfl | rfl | rfl | rfl | rfl <;> simp [totAdd, inb] <;> omega
theorem loop_kind {W : Work} {till : Int} (hK : WOk W) (ht : till ≤ 5000) : ∀ (n : Nat) (q : Qu), DOk W q → ∀ s ∈ (dayLoop W till n q).1, 1 ≤ s.kind ∧ s.kind ≤ 6
  | 0, q, _, s, h => by simp [dayLoop] at h
  | n + 1, q, hD, s, h => by
    cases hc : (decide (q.now < till) && waits q.jobs) with
    | false => rw [day_stop hc] at h; simp at h
    | true =>
      rw [day_go hc] at h
      simp only [Bool.and_eq_true, decide_eq_true_eq] at hc
      obtain ⟨s1, s2, s3, s4⟩ := step_ok hK hD hc.2 (by omega)
      rcases List.mem_cons.1 h with rfl | h
      · rcases step_spec hK hD.q hc.2 with ⟨j, hj, _, h1, h2, h3⟩ | ⟨_, _, ⟨_, h1, h2, h4, _, h3⟩ | ⟨m, hm, htk, hwm, har, h3⟩⟩
        · rw [h3]; exact ⟨by simp, by simp⟩
        · rw [h3]; exact ⟨by simp, by simp⟩
        · rw [h3]
          have := kind_le (W := W) (q := q) m
          unfold runStep
          split
          · exact ⟨by simp, by simp⟩
          · exact ⟨by show 1 ≤ kindOf W q m; omega, by show kindOf W q m ≤ 6; omega⟩
      · exact loop_kind hK ht n _ s2 s h
theorem day_kind {W : Work} {till : Int} (h : dayErr W till = 0) : ∀ s ∈ (day W till).1, 1 ≤ s.kind ∧ s.kind ≤ 6 := by
  obtain ⟨hK, _, _, t5⟩ := day_ok h
  unfold day
  rw [if_pos h]
  exact loop_kind hK t5 _ _ (dok_begin hK)

theorem intLaw : Keyed Try.prog 3 := int_keyed Try.underlying3
theorem zeroInt (w : World) : (zeroValue 3).run Try.prog w = .ok (.int .i64 0) w := by kernel_rfl
theorem wf_of {n : Int} (h1 : -9223372036854775808 ≤ n) (h2 : n ≤ 9223372036854775807) : (Lit.int .i64 n).wf = true := by
  have := Go.wf_wrap .i64 n
  rwa [IntWalk.i64_in _ (by omega)] at this

/-- block b holds the minutes of the kinds of the spells l -/
def KMap (w : World) (b : Nat) (l : List Spell) : Prop :=
  ∃ D : DataW Unit, w.ownsMap Try.prog 3 (plainElem Try.prog 3) b l.length D ∧ IsMap D ∧ ∀ k : Int, D.atKey (.int .i64 k) (.lit (.int .i64 0)) = .lit (.int .i64 (kmin l k))
theorem KMap.made (w : World) : KMap (w.alloc (.map #[] 0)) w.heap.size [] := ⟨_, World.ownsMap_made _ _ _ _, ⟨_, rfl⟩, fun _ => rfl⟩
theorem KMap.lt {w : World} {b : Nat} {l : List Spell} (h : KMap w b l) : b < w.heap.size := by obtain ⟨D, h, _⟩ := h; exact h.lt
theorem KMap.same {w w' : World} {b : Nat} {l : List Spell} (h : KMap w b l) (hb : w'.heap[b]? = w.heap[b]?) : KMap w' b l := by
  obtain ⟨D, ⟨es, clock, hh, F, hs, hD⟩, hm, ha⟩ := h
  exact ⟨D, ⟨es, clock, hb.trans hh, F, hs, hD⟩, hm, ha⟩
theorem KMap.look {w : World} {b : Nat} {l : List Spell} (h : KMap w b l) (k : Int) (hk : (Lit.int .i64 k).wf = true) : (Instr.lookup 101 (.map (some b)) (.int .i64 k) false).run Try.prog w = .ok (.int .i64 (kmin l k)) w := by
  obtain ⟨D, ho, _, ha⟩ := h
  obtain ⟨c, hrun, hat, _⟩ := ho.lookup_int intLaw Try.underlying101 Try.underlying3 (zeroInt w) (keyOf_int_mk Try.underlying3 hk)
  rw [ha k] at hat
  simp at hat
  rw [hrun, hat]
theorem KMap.put {w : World} {b : Nat} {l : List Spell} (h : KMap w b l) (s : Spell) (hk : (Lit.int .i64 s.kind).wf = true) (hv : (Lit.int .i64 (kmin l s.kind + (s.until0 - s.from0))).wf = true) (hl : l.length < 1000000) :
    ∃ w', (Instr.mapUpdate 101 (.map (some b)) (.int .i64 s.kind) (.int .i64 (kmin l s.kind + (s.until0 - s.from0)))).run Try.prog w = .ok () w' ∧ KMap w' b (l ++ [s]) ∧ w.grownBy w' (some b) := by
  obtain ⟨D, ho, hm, ha⟩ := h
  obtain ⟨w', hrun, ho', hg⟩ := ho.update intLaw Try.underlying101 (by unfold maxLen; omega) (keyOf_int_mk Try.underlying3 hk) (plainElem_int Try.underlying3 hv)
  refine ⟨w', hrun, ⟨_, by simpa using ho', ?_, ?_⟩, hg⟩
  · obtain ⟨es, rfl⟩ := hm; exact ⟨_, rfl⟩
  · intro k
    rw [kmin_snoc]
    by_cases he : s.kind = k
    · subst he
      rw [atKey_put_same hm (by trivial)]; simp
    · rw [atKey_put_other (by simpa using fun e => he e.symm), ha k]
      simp [he]

theorem GB.of_below {v : Value} {w w' : World} (h : Below w.heap.size w w') : GB v w w' := ⟨h.os, h.tape, h.output, h.size, fun k hk _ => h.block k hk⟩
theorem GB.below {v : Value} {w0 w w' : World} (h : GB v w0 w) (hb : Below w.heap.size w w') : GB v w0 w' :=
  ⟨hb.os.trans h.os, hb.tape.trans h.tape, hb.output.trans h.output, Nat.le_trans h.size hb.size, fun k hk hn => (hb.block k (Nat.lt_of_lt_of_le hk h.size)).trans (h.block k hk hn)⟩
theorem GB.grown {v : Value} {w0 w w' : World} (h : GB v w0 w) (hg : w.grownBy w' v.ownBlock) : GB v w0 w' :=
  ⟨hg.os.trans h.os, hg.tape.trans h.tape, hg.output.trans h.output, Nat.le_trans h.size hg.size, fun k hk hn => (hg.block k (Nat.lt_of_lt_of_le hk h.size) hn).trans (h.block k hk hn)⟩

set_option maxRecDepth 100000 in
set_option maxHeartbeats 8000000 in
theorem qBill_any (W : Work) (till : Int) (aj af : Option Addr) (cj cf : Nat) (w : World) (hW : WorkIn w W aj af) :
    Calls Try.prog 27 #[.agg #[.int .i64 W.rules.slice, .int .i64 W.rules.load, .int .i64 W.rules.dump, .int .i64 W.rules.patience, .int .i64 W.rules.rate, .slice aj W.jobs.length cj, .slice af W.faults.length cf], .int .i64 till] w (BillRes W till w) := by
  obtain ⟨i0, hi0, hz0, hz1, hz2⟩ := info_parts info_int
  have hmm := @run_makeMap Try.prog
  have HW := hid hW
  clear hW
  refine enter_F Try.func27 rfl Try.ntmps27 (by simp) ?_
  intro s hs
  have sl0 : s 0 = .agg #[.int .i64 W.rules.slice, .int .i64 W.rules.load, .int .i64 W.rules.dump, .int .i64 W.rules.patience, .int .i64 W.rules.rate, .slice aj W.jobs.length cj, .slice af W.faults.length cf] := hs 0 (by simp)
  have sl1 : s 1 = .int .i64 till := hs 1 (by simp)
  clear hs
  repeat (first | ((first | (refine listF_step rfl (fun K' hK => ?_)) | (refine listF_yes rfl rfl (by decide) ?_ (fun K' hK => ?_); (focus (go_simp; done)))); unfold opF; go_simp; (refine hK _ _ ?_); clear hK K') | (refine listF_no (b' := true) rfl rfl (by decide) ?_ ?_ ?_; (focus (go_simp; done)); (focus rfl)) | (refine listF_no (b' := false) rfl rfl (by decide) ?_ ?_ ?_; (focus (go_simp; done)); (focus rfl)) | (refine listF_nu rfl rfl (by decide) ?_ ?_; (focus (go_simp; done))) | (refine listF_nil ?_) | (refine region_F ?_) | (refine cond_F true ?_ ?_; (focus (go_simp; done)); simp only [if_true]) | (refine cond_F false ?_ ?_; (focus (go_simp; done)); simp only [Bool.false_eq_true, if_false]) | (with_reducible go_step))
  (refine listF_step rfl (fun K' hK => ?_); unfold opF; go_simp; refine (qDay_any W till aj af cj cf _ (HW.out.at (by repeat (first | (with_reducible exact Below.refl _ w) | (with_reducible refine bdrewN ?_ _) | (with_reducible refine Below.drew ?_) | (with_reducible refine Below.setCell ?_ (by first | omega | (simp; done) | (simp; omega)) _) | (with_reducible refine Below.alloc ?_ (by first | omega | (simp; done) | (simp; omega)) _))))).mono ?_; rintro e w2 ⟨a, c, a', c', rfl, hl, hq, hb2, hfa, hfq⟩; refine ⟨_, rfl, hK _ _ ?_⟩; clear hK K')
  have k5 : Cells w2 (w.heap.size + 1) [.int .i64 0, .int .i64 0, .int .i64 0, .int .i64 0] := (Cells.new (cs := #[.int .i64 0, .int .i64 0, .int .i64 0, .int .i64 0]) (by first | omega | (simp; done) | (simp; omega))).at hb2
  have HB2 := hid (Below.trans (by repeat (first | (with_reducible exact Below.refl _ w) | (with_reducible refine bdrewN ?_ _) | (with_reducible refine Below.drew ?_) | (with_reducible refine Below.setCell ?_ (by first | omega | (simp; done) | (simp; omega)) _) | (with_reducible refine Below.alloc ?_ (by first | omega | (simp; done) | (simp; omega)) _))) (hb2.mono (by first | omega | (simp; done) | (simp; omega))) : Below w.heap.size w w2)
  have hfa' : ∀ b, a = some b → w.heap.size + 1 < b.block := fun b hb => by have := hfa b hb; simp at this; omega
  have hfq' : ∀ b, a' = some b → w.heap.size + 1 < b.block := fun b hb => by have := hfq b hb; simp at this; omega
  have Hfa := hid hfa'
  have Hfq := hid hfq'
  clear hfa' hfq' hfq hfa hb2
  have ds := k5.1
  by_cases he : dayErr W till = 0
  · have he1 : (dayErr W till != 0) = false := by simp [he]
    have He := hid he
    have Hsp := hid (day_spells he)
    have Hdk := hid (day_dok he)
    have Hok := hid (day_ok he)
    have Hkd := hid (day_kind he)
    have Hb := hid (show billRes W till = (charges (day W till).2, totals (day W till).1, 0) by unfold billRes; rw [if_pos he])
    clear he
    repeat (first | ((first | (refine listF_step rfl (fun K' hK => ?_)) | (refine listF_yes rfl rfl (by decide) ?_ (fun K' hK => ?_); (focus (go_simp; done)))); unfold opF; go_simp; (refine hK _ _ ?_); clear hK K') | (refine listF_no (b' := true) rfl rfl (by decide) ?_ ?_ ?_; (focus (go_simp; done)); (focus rfl)) | (refine listF_no (b' := false) rfl rfl (by decide) ?_ ?_ ?_; (focus (go_simp; done)); (focus rfl)) | (refine listF_nu rfl rfl (by decide) ?_ ?_; (focus (go_simp; done))) | (refine listF_nil ?_) | (refine region_F ?_) | (refine cond_F true ?_ ?_; (focus (go_simp; done)); simp only [if_true]) | (refine cond_F false ?_ ?_; (focus (go_simp; done)); simp only [Bool.false_eq_true, if_false]) | (with_reducible go_step))
    refine wp_absw ?_
    intro wl hwl
    have k8 : Cells wl w2.heap.size [.int .i64 (day W till).2.now, .slice a' (day W till).2.jobs.length c'] := by rw [hwl]; exact (Cells.new (cs := #[.int .i64 (day W till).2.now, .slice a' (day W till).2.jobs.length c']) rfl).up _
    have hbl : Below w2.heap.size w2 wl := by rw [hwl]; exact (by repeat (first | (with_reducible exact Below.refl _ w2) | (with_reducible refine bdrewN ?_ _) | (with_reducible refine Below.drew ?_) | (with_reducible refine Below.setCell ?_ (by first | omega | (simp; done) | (simp; omega)) _) | (with_reducible refine Below.alloc ?_ (by first | omega | (simp; done) | (simp; omega)) _)))
    have hM : KMap wl (w2.heap.size + 1) [] := by
      rw [hwl]
      have := KMap.made (w2.alloc (.cells #[.int .i64 (day W till).2.now, .slice a' (day W till).2.jobs.length c'] 33))
      simpa using this
    have hM0 : w2.heap.size + 1 < wl.heap.size := hM.lt
    replace k5 := k5.at hbl
    have Hbl := hid hbl
    have HBl := hid (HB2.out.trans (hbl.mono HB2.out.size) : Below w.heap.size w wl)
    clear hwl hbl HB2
    (refine wp_abs ?_; intro s' hs'; have gl4 := congrFun hs' 4; simp only [updS_some, updS_none, Nat.reduceEqDiff, ↓reduceIte] at gl4; (try rw [sl4] at gl4); have gl5 := congrFun hs' 5; simp only [updS_some, updS_none, Nat.reduceEqDiff, ↓reduceIte] at gl5; (try rw [sl5] at gl5); have gl8 := congrFun hs' 8; simp only [updS_some, updS_none, Nat.reduceEqDiff, ↓reduceIte] at gl8; (try rw [sl8] at gl8); have gl9 := congrFun hs' 9; simp only [updS_some, updS_none, Nat.reduceEqDiff, ↓reduceIte] at gl9; (try rw [sl9] at gl9); have gl26 := congrFun hs' 26; simp only [updS_some, updS_none, Nat.reduceEqDiff, ↓reduceIte] at gl26; (try rw [sl26] at gl26); have gl27 := congrFun hs' 27; simp only [updS_some, updS_none, Nat.reduceEqDiff, ↓reduceIte] at gl27; (try rw [sl27] at gl27); have gl28 := congrFun hs' 28; simp only [updS_some, updS_none, Nat.reduceEqDiff, ↓reduceIte] at gl28; (try rw [sl28] at gl28); clear hs'; (try clear sl4); (try clear sl5); (try clear sl8); (try clear sl9); (try clear sl26); (try clear sl27); (try clear sl28); have sl4 := gl4; clear gl4; have sl5 := gl5; clear gl5; have sl8 := gl8; clear gl8; have sl9 := gl9; clear gl9; have sl26 := gl26; clear gl26; have sl27 := gl27; clear gl27; have sl28 := gl28; clear gl28)
    have hj12 : (day W till).2.jobs.length ≤ 12 := by have := Hdk.out.len; have := Hok.out.1.jl; omega
    have hl5 : (day W till).1.length ≤ 5000 := Hsp.out.1
    have hs2 : w.heap.size + 1 < w2.heap.size := by simpa using ds
    generalize hll : (day W till).1 = l at *
    have Hll := hid hll
    clear hll
    refine loop_F (n := 72) (fun m s wr => ∃ k : Nat, m = l.length - k ∧ k ≤ l.length ∧ s 4 = .slice none 0 0 ∧ s 5 = .pointer (some ⟨w.heap.size + 1, 0, none⟩) ∧ s 8 = .pointer (some ⟨w2.heap.size, 0, none⟩) ∧ s 9 = .map (some (w2.heap.size + 1)) ∧ s 26 = .slice a l.length c ∧ s 27 = .int .i64 l.length ∧ s 28 = .int .i64 k ∧ Hid (KMap wr (w2.heap.size + 1) (l.take k)) ∧ GB (.slice (some ⟨w2.heap.size + 1, 0, none⟩) 0 0) wl wr) (k0 := l.length) ⟨0, rfl, Nat.zero_le _, sl4, sl5, sl8, sl9, sl26, sl27, sl28, hid hM, GB.of_below (Below.refl _ _)⟩ ?_
    clear sl4 sl5 sl8 sl9 sl26 sl27 sl28 hM
    rintro m s wr ⟨k, rfl, hk, sl4, sl5, sl8, sl9, sl26, sl27, sl28, HM, hG⟩
    have hGs := hG.size
    by_cases hlt : k < l.length
    · have hlow : Below w2.heap.size w2 wr := Hbl.out.trans (hG.low (by omega) (fun k hk => by cases hk; show w2.heap.size ≤ w2.heap.size + 1; omega))
      obtain ⟨b, off, rfl, hb, d1, d2, d3, d4⟩ := RdSpells.ne (Rd.at hl hlow) hlt
      have hsp := Hsp.out.2 _ (List.getElem_mem hlt)
      have hkd := Hkd.out _ (List.getElem_mem hlt)
      have hkm := kmin_bd l[k].kind (l.take k) (fun s hs => by have := Hsp.out.2 s (List.mem_of_mem_take hs); have := Hok.out.2.2; omega)
      have hlk : (l.take k).length = k := by simp; omega
      rw [hlk] at hkm
      have hok := Hok.out.2.2
      have w1 : IntKind.i64.wrap (l[k].until0 - l[k].from0) = l[k].until0 - l[k].from0 := IntWalk.i64_in _ (by omega)
      have w2' : IntKind.i64.wrap (kmin (l.take k) l[k].kind + (l[k].until0 - l[k].from0)) = kmin (l.take k) l[k].kind + (l[k].until0 - l[k].from0) := IntWalk.i64_in _ (by omega)
      have w3 : IntKind.i64.wrap ((k : Int) + 1) = (k : Int) + 1 := IntWalk.i64_in _ (by omega)
      have x1 : (k : Int) < (l.length : Int) := by omega
      have Hlk := hid hlk
      have wfk := wf_of (n := l[k].kind) (by omega) (by omega)
      have wfv := wf_of (n := kmin (l.take k) l[k].kind + (l[k].until0 - l[k].from0)) (by omega) (by omega)
      have Wfk := hid wfk
      have Wfv := hid wfv
      clear hlk hkm hsp hkd hok wfk wfv hlow
      repeat (first | ((first | (refine listF_step rfl (fun K' hK => ?_)) | (refine listF_yes rfl rfl (by decide) ?_ (fun K' hK => ?_); (focus (go_simp; done)))); unfold opF; go_simp; (refine hK _ _ ?_); clear hK K') | (refine listF_no (b' := true) rfl rfl (by decide) ?_ ?_ ?_; (focus (go_simp; done)); (focus rfl)) | (refine listF_no (b' := false) rfl rfl (by decide) ?_ ?_ ?_; (focus (go_simp; done)); (focus rfl)) | (refine listF_nu rfl rfl (by decide) ?_ ?_; (focus (go_simp; done))) | (refine listF_nil ?_) | (refine region_F ?_) | (refine cond_F true ?_ ?_; (focus (go_simp; done)); simp only [if_true]) | (refine cond_F false ?_ ?_; (focus (go_simp; done)); simp only [Bool.false_eq_true, if_false]) | (with_reducible go_step))
      refine listF_absw ?_
      intro wa hwa
      have k11 : Cells wa wr.heap.size [.int .i64 l[k].kind, .int .i64 l[k].job, .int .i64 l[k].from0, .int .i64 l[k].until0] := by rw [hwa]; exact Cells.new (cs := #[.int .i64 l[k].kind, .int .i64 l[k].job, .int .i64 l[k].from0, .int .i64 l[k].until0]) rfl
      have hba : Below wr.heap.size wr wa := by rw [hwa]; exact (by repeat (first | (with_reducible exact Below.refl _ wr) | (with_reducible refine bdrewN ?_ _) | (with_reducible refine Below.drew ?_) | (with_reducible refine Below.setCell ?_ (by first | omega | (simp; done) | (simp; omega)) _) | (with_reducible refine Below.alloc ?_ (by first | omega | (simp; done) | (simp; omega)) _)))
      have hMa : KMap wa (w2.heap.size + 1) (l.take k) := HM.out.same (hba.block _ HM.out.lt)
      have hGa := hG.below hba
      clear hwa hba HM hG
      have hlook := hMa.look l[k].kind Wfk.out
      obtain ⟨wb, hrun, hMb, hgb⟩ := hMa.put l[k] Wfk.out Wfv.out (by have := Hlk.out; omega)
      have hGb := hGa.grown hgb
      have e0 := k11.cell 0 rfl
      have e1 := k11.cell 1 rfl
      have e2 := k11.cell 2 rfl
      have e3 := k11.cell 3 rfl
      have es := k11.1
      have HMb := hid (show KMap wb (w2.heap.size + 1) (l.take (k + 1)) by rw [List.take_succ_eq_append_getElem hlt]; exact hMb)
      clear hMa hGa hgb d1 d2 d3 d4 hMb
      (refine listF_abs ?_; intro s' hs'; have gl4 := congrFun hs' 4; simp only [updS_some, updS_none, Nat.reduceEqDiff, ↓reduceIte] at gl4; (try rw [sl4] at gl4); have gl5 := congrFun hs' 5; simp only [updS_some, updS_none, Nat.reduceEqDiff, ↓reduceIte] at gl5; (try rw [sl5] at gl5); have gl8 := congrFun hs' 8; simp only [updS_some, updS_none, Nat.reduceEqDiff, ↓reduceIte] at gl8; (try rw [sl8] at gl8); have gl9 := congrFun hs' 9; simp only [updS_some, updS_none, Nat.reduceEqDiff, ↓reduceIte] at gl9; (try rw [sl9] at gl9); have gl11 := congrFun hs' 11; simp only [updS_some, updS_none, Nat.reduceEqDiff, ↓reduceIte] at gl11; (try rw [sl11] at gl11); have gl26 := congrFun hs' 26; simp only [updS_some, updS_none, Nat.reduceEqDiff, ↓reduceIte] at gl26; (try rw [sl26] at gl26); have gl27 := congrFun hs' 27; simp only [updS_some, updS_none, Nat.reduceEqDiff, ↓reduceIte] at gl27; (try rw [sl27] at gl27); have gl28 := congrFun hs' 28; simp only [updS_some, updS_none, Nat.reduceEqDiff, ↓reduceIte] at gl28; (try rw [sl28] at gl28); have gl32 := congrFun hs' 32; simp only [updS_some, updS_none, Nat.reduceEqDiff, ↓reduceIte] at gl32; (try rw [sl32] at gl32); have gl34 := congrFun hs' 34; simp only [updS_some, updS_none, Nat.reduceEqDiff, ↓reduceIte] at gl34; (try rw [sl34] at gl34); clear hs'; (try clear sl4); (try clear sl5); (try clear sl8); (try clear sl9); (try clear sl11); (try clear sl26); (try clear sl27); (try clear sl28); (try clear sl32); (try clear sl34); have sl4 := gl4; clear gl4; have sl5 := gl5; clear gl5; have sl8 := gl8; clear gl8; have sl9 := gl9; clear gl9; have sl11 := gl11; clear gl11; have sl26 := gl26; clear gl26; have sl27 := gl27; clear gl27; have sl28 := gl28; clear gl28; have sl32 := gl32; clear gl32; have sl34 := gl34; clear gl34)
      repeat (first | ((first | (refine listF_step rfl (fun K' hK => ?_)) | (refine listF_yes rfl rfl (by decide) ?_ (fun K' hK => ?_); (focus (go_simp; done)))); unfold opF; go_simp; (refine hK _ _ ?_); clear hK K') | (refine listF_no (b' := true) rfl rfl (by decide) ?_ ?_ ?_; (focus (go_simp; done)); (focus rfl)) | (refine listF_no (b' := false) rfl rfl (by decide) ?_ ?_ ?_; (focus (go_simp; done)); (focus rfl)) | (refine listF_nu rfl rfl (by decide) ?_ ?_; (focus (go_simp; done))) | (refine listF_nil ?_) | (refine region_F ?_) | (refine cond_F true ?_ ?_; (focus (go_simp; done)); simp only [if_true]) | (refine cond_F false ?_ ?_; (focus (go_simp; done)); simp only [Bool.false_eq_true, if_false]) | (with_reducible go_step))
      refine ⟨_, _, rfl, ?_, k + 1, rfl, by omega, (by first | (go_simp; done) | exact sl4 | (simp only [updS_some, updS_none, Nat.reduceEqDiff, ↓reduceIte]; exact sl4)), (by first | (go_simp; done) | exact sl5 | (simp only [updS_some, updS_none, Nat.reduceEqDiff, ↓reduceIte]; exact sl5)), (by first | (go_simp; done) | exact sl8 | (simp only [updS_some, updS_none, Nat.reduceEqDiff, ↓reduceIte]; exact sl8)), (by first | (go_simp; done) | exact sl9 | (simp only [updS_some, updS_none, Nat.reduceEqDiff, ↓reduceIte]; exact sl9)), (by first | (go_simp; done) | exact sl26 | (simp only [updS_some, updS_none, Nat.reduceEqDiff, ↓reduceIte]; exact sl26)), (by first | (go_simp; done) | exact sl27 | (simp only [updS_some, updS_none, Nat.reduceEqDiff, ↓reduceIte]; exact sl27)), by go_simp, HMb, hGb⟩
      omega
    · have hkl : k = l.length := by omega
      subst hkl
      have hM := HM.out
      rw [List.take_length] at hM
      have HM2 := hid hM
      have hlow : Below w2.heap.size w2 wr := Hbl.out.trans (hG.low (by omega) (fun k hk => by cases hk; show w2.heap.size ≤ w2.heap.size + 1; omega))
      have hqr : RdSts wr a' (day W till).2.jobs := Rd.at hq hlow
      have k5r := hG.cells k5 (fun e => by simp [Value.ownBlock] at e; omega)
      have k8r := hG.cells k8 (fun e => by simp [Value.ownBlock] at e)
      have HBr := hid (HBl.out.trans (hG.low (N := w.heap.size) (by have := HBl.out.size; omega) (fun k hk => by cases hk; show w.heap.size ≤ w2.heap.size + 1; omega)) : Below w.heap.size w wr)
      have hMl := hM.lt
      clear hM HM hlow hG hlt hk hl k5 k8
      have e81 := k8r.cell 1 rfl
      have es := k8r.1
      repeat (first | ((first | (refine listF_step rfl (fun K' hK => ?_)) | (refine listF_yes rfl rfl (by decide) ?_ (fun K' hK => ?_); (focus (go_simp; done)))); unfold opF; go_simp; (refine hK _ _ ?_); clear hK K') | (refine listF_no (b' := true) rfl rfl (by decide) ?_ ?_ ?_; (focus (go_simp; done)); (focus rfl)) | (refine listF_no (b' := false) rfl rfl (by decide) ?_ ?_ ?_; (focus (go_simp; done)); (focus rfl)) | (refine listF_nu rfl rfl (by decide) ?_ ?_; (focus (go_simp; done))) | (refine listF_nil ?_) | (refine region_F ?_) | (refine cond_F true ?_ ?_; (focus (go_simp; done)); simp only [if_true]) | (refine cond_F false ?_ ?_; (focus (go_simp; done)); simp only [Bool.false_eq_true, if_false]) | (with_reducible go_step))
      (refine wp_abs ?_; intro s' hs'; have gl4 := congrFun hs' 4; simp only [updS_some, updS_none, Nat.reduceEqDiff, ↓reduceIte] at gl4; (try rw [sl4] at gl4); have gl5 := congrFun hs' 5; simp only [updS_some, updS_none, Nat.reduceEqDiff, ↓reduceIte] at gl5; (try rw [sl5] at gl5); have gl9 := congrFun hs' 9; simp only [updS_some, updS_none, Nat.reduceEqDiff, ↓reduceIte] at gl9; (try rw [sl9] at gl9); have gl44 := congrFun hs' 44; simp only [updS_some, updS_none, Nat.reduceEqDiff, ↓reduceIte] at gl44; (try rw [sl44] at gl44); have gl45 := congrFun hs' 45; simp only [updS_some, updS_none, Nat.reduceEqDiff, ↓reduceIte] at gl45; (try rw [sl45] at gl45); have gl46 := congrFun hs' 46; simp only [updS_some, updS_none, Nat.reduceEqDiff, ↓reduceIte] at gl46; (try rw [sl46] at gl46); clear hs'; (try clear sl4); (try clear sl5); (try clear sl9); (try clear sl44); (try clear sl45); (try clear sl46); have sl4 := gl4; clear gl4; have sl5 := gl5; clear gl5; have sl9 := gl9; clear gl9; have sl44 := gl44; clear gl44; have sl45 := gl45; clear gl45; have sl46 := gl46; clear gl46)
      clear e81 es sl8 sl26 sl27 sl28 k8r
      refine loop_F (n := 72) (fun m s we => ∃ (k : Nat) (v : Value), m = (day W till).2.jobs.length - k ∧ k ≤ (day W till).2.jobs.length ∧ s 4 = v ∧ s 5 = .pointer (some ⟨w.heap.size + 1, 0, none⟩) ∧ s 9 = .map (some (w2.heap.size + 1)) ∧ s 44 = .slice a' (day W till).2.jobs.length c' ∧ s 45 = .int .i64 (day W till).2.jobs.length ∧ s 46 = .int .i64 k ∧ Hid (OwnInts wr.heap.size we v ((charges (day W till).2).take k)) ∧ Below wr.heap.size wr we) (k0 := (day W till).2.jobs.length) ⟨0, .slice none 0 0, rfl, Nat.zero_le _, sl4, sl5, sl9, sl44, sl45, sl46, hid (Own.nil _ _ _ _ _), Below.refl _ _⟩ ?_
      clear sl4 sl5 sl9 sl44 sl45 sl46
      rintro m s we ⟨k, v, rfl, hk, sl4, sl5, sl9, sl44, sl45, sl46, hO, hB⟩
      have hsr := hB.size
      have k5' := k5r.at hB
      by_cases hlt : k < (day W till).2.jobs.length
      · obtain ⟨b2, o2, rfl, hb2, e1, e2, e3, e4, e5⟩ := RdSts.ne (Rd.at hqr hB) hlt
        have x1 : (k : Int) < ((day W till).2.jobs.length : Int) := by omega
        have hwk : IntKind.i64.wrap ((k : Int) + 1) = (k : Int) + 1 := IntWalk.i64_in _ (by omega)
        have ho : we.ownsRow wr.heap.size 3 1 v k (((charges (day W till).2).take k).flatMap fun n => [Value.int .i64 n]) := by
          have := hO.out; unfold OwnInts Own at this; rw [show ((charges (day W till).2).take k).length = k by simp [charges]; omega] at this; exact this
        have Hsn := hid (charges_snoc hlt)
        repeat (first | ((first | (refine listF_step rfl (fun K' hK => ?_)) | (refine listF_yes rfl rfl (by decide) ?_ (fun K' hK => ?_); (focus (go_simp; done)))); unfold opF; go_simp; (refine hK _ _ ?_); clear hK K') | (refine listF_no (b' := true) rfl rfl (by decide) ?_ ?_ ?_; (focus (go_simp; done)); (focus rfl)) | (refine listF_no (b' := false) rfl rfl (by decide) ?_ ?_ ?_; (focus (go_simp; done)); (focus rfl)) | (refine listF_nu rfl rfl (by decide) ?_ ?_; (focus (go_simp; done))) | (refine listF_nil ?_) | (refine region_F ?_) | (refine cond_F true ?_ ?_; (focus (go_simp; done)); simp only [if_true]) | (refine cond_F false ?_ ?_; (focus (go_simp; done)); simp only [Bool.false_eq_true, if_false]) | (with_reducible go_step))
        refine listF_absw ?_
        intro wa hwa
        have hsz : we.heap.size < wa.heap.size := by rw [hwa]; simp; omega
        have kE : Cells wa (we.heap.size + 1) [.int .i64 (day W till).2.jobs[k].charge] := by rw [hwa]; exact Cells.new (cs := #[.int .i64 (day W till).2.jobs[k].charge]) (by simp)
        have hba : Below we.heap.size we wa := by rw [hwa]; exact (by repeat (first | (with_reducible exact Below.refl _ we) | (with_reducible refine bdrewN ?_ _) | (with_reducible refine Below.drew ?_) | (with_reducible refine Below.setCell ?_ (by first | omega | (simp; done) | (simp; omega)) _) | (with_reducible refine Below.alloc ?_ (by first | omega | (simp; done) | (simp; omega)) _)))
        have hoa : wa.ownsRow wr.heap.size 3 1 v k (((charges (day W till).2).take k).flatMap fun n => [Value.int .i64 n]) := by rw [hwa]; exact (ho.alloc _).alloc _
        have hsa := hba.size
        clear hwa
        refine listF_step rfl (fun K' hK => ?_)
        refine opF_of_wp (d := 54) rfl (by decide) (fun K1 Q1 hK1 => wp_append_own _ _ _ 48 rfl wr.heap.size 3 i0 _ 1 8 Try.underlying48 hi0 hz0 hz1 hz2 rfl (by decide) v k _ (by rw [mkA_eval]; go_simp) hoa ⟨we.heap.size + 1, 0, none⟩ 1 1 [.int .i64 (day W till).2.jobs[k].charge] (by rw [mkA_eval]; go_simp) rfl kE.news (by simp [Value.oneCell']) (by unfold maxLen; omega) (by omega) (by omega) (fun v5 w6 ho5 hg5 _ => hK1 _ _ (hK _ _ ?_)))
        clear hK
        have hb6 : Below wr.heap.size wr w6 := (hB.trans (hba.mono hsr)).grown hg5 (by omega) (fun g hg => (World.ownsRow.lt hoa g hg).1)
        repeat (first | ((first | (refine listF_step rfl (fun K' hK => ?_)) | (refine listF_yes rfl rfl (by decide) ?_ (fun K' hK => ?_); (focus (go_simp; done)))); unfold opF; go_simp; (refine hK _ _ ?_); clear hK K') | (refine listF_no (b' := true) rfl rfl (by decide) ?_ ?_ ?_; (focus (go_simp; done)); (focus rfl)) | (refine listF_no (b' := false) rfl rfl (by decide) ?_ ?_ ?_; (focus (go_simp; done)); (focus rfl)) | (refine listF_nu rfl rfl (by decide) ?_ ?_; (focus (go_simp; done))) | (refine listF_nil ?_) | (refine region_F ?_) | (refine cond_F true ?_ ?_; (focus (go_simp; done)); simp only [if_true]) | (refine cond_F false ?_ ?_; (focus (go_simp; done)); simp only [Bool.false_eq_true, if_false]) | (with_reducible go_step))
        refine ⟨_, _, rfl, ?_, k + 1, v5, rfl, by omega, by go_simp, (by first | (go_simp; done) | exact sl5 | (simp only [updS_some, updS_none, Nat.reduceEqDiff, ↓reduceIte]; exact sl5)), (by first | (go_simp; done) | exact sl9 | (simp only [updS_some, updS_none, Nat.reduceEqDiff, ↓reduceIte]; exact sl9)), (by first | (go_simp; done) | exact sl44 | (simp only [updS_some, updS_none, Nat.reduceEqDiff, ↓reduceIte]; exact sl44)), (by first | (go_simp; done) | exact sl45 | (simp only [updS_some, updS_none, Nat.reduceEqDiff, ↓reduceIte]; exact sl45)), by go_simp, hid ?_, hb6⟩
        · omega
        · rw [Hsn.out]
          refine Own.of (n := k + 1) (by simp [charges]; omega) ?_ ho5
          rw [List.flatMap_append]; rfl
      · have hkl : k = (day W till).2.jobs.length := by omega
        subst hkl
        have hOf := hO.out
        rw [List.take_of_length_le (by simp [charges])] at hOf
        obtain ⟨av, cv, rfl, hrd, hav⟩ := Own.slice (f := fun n : Int => [Value.int .i64 n]) (m := 1) (fun _ => rfl) hOf
        have HMe := hid (HM2.out.same (hB.block _ HM2.out.lt))
        have HBe := hid (HBr.out.trans (hB.mono HBr.out.size) : Below w.heap.size w we)
        have Hrd := hid hrd
        have Hav := hid hav
        have hbd : ∀ k, 0 ≤ kmin l k ∧ kmin l k ≤ 50000000 := fun k => by
          have := kmin_bd k l (fun s hs => by have := Hsp.out.2 s hs; have := Hok.out.2.2; omega); omega
        have v1 := hbd 1
        have v2 := hbd 2
        have v3 := hbd 3
        have y1 : IntKind.i64.wrap (kmin l 1 + kmin l 2) = kmin l 1 + kmin l 2 := IntWalk.i64_in _ (by omega)
        have y2 : IntKind.i64.wrap (kmin l 1 + kmin l 2 + kmin l 3) = kmin l 1 + kmin l 2 + kmin l 3 := IntWalk.i64_in _ (by omega)
        have Htot := hid (totals_kmin l Hkd.out)
        have hms := HMe.out.lt
        clear hbd v1 v2 v3 hOf hO hk hlt hrd hav hB hsr hGs hM0
        repeat (first | ((first | (refine listF_step rfl (fun K' hK => ?_)) | (refine listF_yes rfl rfl (by decide) ?_ (fun K' hK => ?_); (focus (go_simp; done)))); unfold opF; go_simp; (refine hK _ _ ?_); clear hK K') | (refine listF_no (b' := true) rfl rfl (by decide) ?_ ?_ ?_; (focus (go_simp; done)); (focus rfl)) | (refine listF_no (b' := false) rfl rfl (by decide) ?_ ?_ ?_; (focus (go_simp; done)); (focus rfl)) | (refine listF_nu rfl rfl (by decide) ?_ ?_; (focus (go_simp; done))) | (refine listF_nil ?_) | (refine region_F ?_) | (refine cond_F true ?_ ?_; (focus (go_simp; done)); simp only [if_true]) | (refine cond_F false ?_ ?_; (focus (go_simp; done)); simp only [Bool.false_eq_true, if_false]) | (with_reducible go_step))
        (refine wp_abs ?_; intro s' hs'; have gl4 := congrFun hs' 4; simp only [updS_some, updS_none, Nat.reduceEqDiff, ↓reduceIte] at gl4; (try rw [sl4] at gl4); have gl5 := congrFun hs' 5; simp only [updS_some, updS_none, Nat.reduceEqDiff, ↓reduceIte] at gl5; (try rw [sl5] at gl5); have gl9 := congrFun hs' 9; simp only [updS_some, updS_none, Nat.reduceEqDiff, ↓reduceIte] at gl9; (try rw [sl9] at gl9); clear hs'; (try clear sl4); (try clear sl5); (try clear sl9); have sl4 := gl4; clear gl4; have sl5 := gl5; clear gl5; have sl9 := gl9; clear gl9)
        have hMd : KMap we.drew (w2.heap.size + 1) l := HMe.out.same rfl
        have l1 := hMd.look 1 (by decide)
        have l2 := hMd.look 2 (by decide)
        have l3 := hMd.look 3 (by decide)
        have l4 := hMd.look 4 (by decide)
        have l5 := hMd.look 5 (by decide)
        have l6 := hMd.look 6 (by decide)
        refine regionT_F 17 (by kernel_rfl) (by kernel_rfl) ?_
        simp only [List.take_succ_cons, List.take_zero, List.drop_succ_cons, List.drop_zero]
        repeat (refine listS_step rfl (fun K' hK => ?_); go_simp; refine hK _ ?_; clear hK K')
        refine listS_nil ?_
        clear l1 l2 l3 l4 l5 l6 hMd
        have d0 := k5'.cell 0 rfl
        have d1 := k5'.cell 1 rfl
        have d2 := k5'.cell 2 rfl
        have d3 := k5'.cell 3 rfl
        have dz := k5'.2.2
        have d5 := k5'.1
        repeat (first | ((first | (refine listF_step rfl (fun K' hK => ?_)) | (refine listF_yes rfl rfl (by decide) ?_ (fun K' hK => ?_); (focus (go_simp; done)))); unfold opF; go_simp; (refine hK _ _ ?_); clear hK K') | (refine listF_no (b' := true) rfl rfl (by decide) ?_ ?_ ?_; (focus (go_simp; done)); (focus rfl)) | (refine listF_no (b' := false) rfl rfl (by decide) ?_ ?_ ?_; (focus (go_simp; done)); (focus rfl)) | (refine listF_nu rfl rfl (by decide) ?_ ?_; (focus (go_simp; done))) | (refine listF_nil ?_) | (refine region_F ?_) | (refine cond_F true ?_ ?_; (focus (go_simp; done)); simp only [if_true]) | (refine cond_F false ?_ ?_; (focus (go_simp; done)); simp only [Bool.false_eq_true, if_false]) | (with_reducible go_step))
        refine ret_F (.tuple #[.slice av (charges (day W till).2).length cv, .agg #[.int .i64 (kmin l 1 + kmin l 2 + kmin l 3), .int .i64 (kmin l 4), .int .i64 (kmin l 5), .int .i64 (kmin l 6)], .int .i64 0]) (res_tct (ad := ⟨w.heap.size + 1, 0, none⟩) Try.results27 ((getD_F (by simp)).trans (by go_simp)) ((getD_F (by simp)).trans (by go_simp)) (load_tot (by go_simp) (by go_simp) (by go_simp) (by go_simp)) ((getD_F (by simp)).trans (by go_simp))) ?_
        refine ⟨av, cv, by rw [Hb.out, Htot.out], ?_, (by repeat (first | (with_reducible exact HBe.out) | (with_reducible refine bdrewN ?_ _) | (with_reducible refine Below.drew ?_) | (with_reducible refine Below.setCell ?_ (by first | omega | (simp; done) | (simp; omega)) _) | (with_reducible refine Below.alloc ?_ (by first | omega | (simp; done) | (simp; omega)) _)))⟩
        rw [Hb.out]
        have hn : ∀ b, av = some b → b.block ≠ w.heap.size + 1 := fun b hb => by have := Hav.out b hb; omega
        exact (((Rd.setFar (w := we.drew) Hrd.out hn).setFar hn).setFar hn).setFar hn
  · have he1 : (dayErr W till != 0) = true := by simp [he]
    have Hb := hid (show billRes W till = ([], Tot.zero, dayErr W till) by unfold billRes; rw [if_neg he])
    clear he
    repeat (first | ((first | (refine listF_step rfl (fun K' hK => ?_)) | (refine listF_yes rfl rfl (by decide) ?_ (fun K' hK => ?_); (focus (go_simp; done)))); unfold opF; go_simp; (refine hK _ _ ?_); clear hK K') | (refine listF_no (b' := true) rfl rfl (by decide) ?_ ?_ ?_; (focus (go_simp; done)); (focus rfl)) | (refine listF_no (b' := false) rfl rfl (by decide) ?_ ?_ ?_; (focus (go_simp; done)); (focus rfl)) | (refine listF_nu rfl rfl (by decide) ?_ ?_; (focus (go_simp; done))) | (refine listF_nil ?_) | (refine region_F ?_) | (refine cond_F true ?_ ?_; (focus (go_simp; done)); simp only [if_true]) | (refine cond_F false ?_ ?_; (focus (go_simp; done)); simp only [Bool.false_eq_true, if_false]) | (with_reducible go_step))
    (refine wp_abs ?_; intro s' hs'; have gl4 := congrFun hs' 4; simp only [updS_some, updS_none, Nat.reduceEqDiff, ↓reduceIte] at gl4; (try rw [sl4] at gl4); have gl5 := congrFun hs' 5; simp only [updS_some, updS_none, Nat.reduceEqDiff, ↓reduceIte] at gl5; (try rw [sl5] at gl5); have gl6 := congrFun hs' 6; simp only [updS_some, updS_none, Nat.reduceEqDiff, ↓reduceIte] at gl6; (try rw [sl6] at gl6); clear hs'; (try clear sl4); (try clear sl5); (try clear sl6); have sl4 := gl4; clear gl4; have sl5 := gl5; clear gl5; have sl6 := gl6; clear gl6)
    refine regionR_F [(w.heap.size + 1)] [[.int .i64 0, .int .i64 0, .int .i64 0, .int .i64 0]] [5] [.q [5], .q [], .q [], .st 5] [?v1_0, ?v1_1, ?v1_2, fun _ => undef] [fun _ => [], fun _ => [], fun _ => [], ?c1_3] (by kernel_rfl) (by kernel_rfl) (by kernel_rfl) (by kernel_rfl) (by kernel_rfl) (by first | exact List.nodup_nil | exact List.nodup_singleton _ | (simp; done) | (simp; omega)) (bc_cons (by repeat (first | (with_reducible exact k5) | (with_reducible refine Cells.drew ?_) | (with_reducible refine Cells.up ?_ _) | (with_reducible refine Cells.setFar ?_ (by omega)))) bc_nil) ?walk1 ?dep1
    case' walk1 =>
      refine walkR_q (by rfl) (fun X hX wq hwq hrq => ?_) ?_
      · obtain ⟨hcq, hfq⟩ := hwq.b1
        have kq5 := hrq 5 (by simp)
        rw [show X 5 = (w.heap.size + 1) from hX.at0 0 _ rfl] at kq5
        replace kq5 : Cells wq (w.heap.size + 1) [.int .i64 0, .int .i64 0, .int .i64 0, .int .i64 0] := kq5
        have kqs5 := kq5.1
        have kq5_0 := kq5.cell 0 rfl
        have kq5_1 := kq5.cell 1 rfl
        have kq5_2 := kq5.cell 2 rfl
        have kq5_3 := kq5.cell 3 rfl
        clear hrq
        go_simp
        (first | rfl | exact ⟨rfl, rfl⟩)
      refine walkR_q (by rfl) (fun X hX wq hwq hrq => ?_) ?_
      · obtain ⟨hcq, hfq⟩ := hwq.b1
        clear hrq
        go_simp
        (first | rfl | exact ⟨rfl, rfl⟩)
      refine walkR_q (by rfl) (fun X hX wq hwq hrq => ?_) ?_
      · obtain ⟨hcq, hfq⟩ := hwq.b1
        clear hrq
        go_simp
        (first | rfl | exact ⟨rfl, rfl⟩)
      refine walkR_st (by rfl) (fun X hX wq hwq hkq => ?_) ?_
      · rw [show X 5 = (w.heap.size + 1) from hX.at0 0 _ rfl] at hkq ⊢
        replace hkq : Cells wq (w.heap.size + 1) [.int .i64 0, .int .i64 0, .int .i64 0, .int .i64 0] := hkq
        have hks := hkq.1
        have hkz := hkq.2.2
        have hk0 := hkq.cell 0 rfl
        have hk1 := hkq.cell 1 rfl
        have hk2 := hkq.cell 2 rfl
        have hk3 := hkq.cell 3 rfl
        go_simp
        (first | ((with_reducible refine writeB_mk (Cells.set hkq) ?_ ?_); (focus (repeat (first | (with_reducible exact Only.refl _ _) | (with_reducible refine Only.set ?_)))); rfl) | ((with_reducible refine writeB_mk (Cells.set (Cells.set hkq)) ?_ ?_); (focus (repeat (first | (with_reducible exact Only.refl _ _) | (with_reducible refine Only.set ?_)))); rfl) | ((with_reducible refine writeB_mk (Cells.set (Cells.set (Cells.set hkq))) ?_ ?_); (focus (repeat (first | (with_reducible exact Only.refl _ _) | (with_reducible refine Only.set ?_)))); rfl) | ((with_reducible refine writeB_mk (Cells.set (Cells.set (Cells.set (Cells.set hkq)))) ?_ ?_); (focus (repeat (first | (with_reducible exact Only.refl _ _) | (with_reducible refine Only.set ?_)))); rfl) | ((with_reducible refine writeB_mk (Cells.set (Cells.set (Cells.set (Cells.set (Cells.set hkq))))) ?_ ?_); (focus (repeat (first | (with_reducible exact Only.refl _ _) | (with_reducible refine Only.set ?_)))); rfl) | ((with_reducible refine writeB_mk (Cells.set (Cells.set (Cells.set (Cells.set (Cells.set (Cells.set hkq)))))) ?_ ?_); (focus (repeat (first | (with_reducible exact Only.refl _ _) | (with_reducible refine Only.set ?_)))); rfl) | ((with_reducible refine writeB_mk (Cells.set (Cells.set (Cells.set (Cells.set (Cells.set (Cells.set (Cells.set hkq))))))) ?_ ?_); (focus (repeat (first | (with_reducible exact Only.refl _ _) | (with_reducible refine Only.set ?_)))); rfl) | ((with_reducible refine writeB_mk (Cells.set (Cells.set (Cells.set (Cells.set (Cells.set (Cells.set (Cells.set (Cells.set hkq)))))))) ?_ ?_); (focus (repeat (first | (with_reducible exact Only.refl _ _) | (with_reducible refine Only.set ?_)))); rfl))
      refine walkR_nil (fun X hX wz hwz hcz => ?_)
      have kz0 := hcz 5 (by simp)
      rw [show X 5 = (w.heap.size + 1) from hX.at0 0 _ rfl] at kz0
      simp only [updC_some, updC_none, Nat.reduceEqDiff, ↓reduceIte] at kz0
      clear hX hcz
      (try clear X)
    case dep1 =>
      refine depR_cons (fun X X' h => ?_) ?_
      · (first | exact ⟨rfl, rfl⟩)
      refine depR_cons (fun X X' h => ?_) ?_
      · (first | exact ⟨rfl, rfl⟩)
      refine depR_cons (fun X X' h => ?_) ?_
      · (first | exact ⟨rfl, rfl⟩)
      refine depR_cons (fun X X' h => ?_) ?_
      · (first | exact ⟨rfl, rfl⟩)
      exact depR_nil
    repeat (first | ((first | (refine listF_step rfl (fun K' hK => ?_)) | (refine listF_yes rfl rfl (by decide) ?_ (fun K' hK => ?_); (focus (go_simp; done)))); unfold opF; go_simp; (refine hK _ _ ?_); clear hK K') | (refine listF_no (b' := true) rfl rfl (by decide) ?_ ?_ ?_; (focus (go_simp; done)); (focus rfl)) | (refine listF_no (b' := false) rfl rfl (by decide) ?_ ?_ ?_; (focus (go_simp; done)); (focus rfl)) | (refine listF_nu rfl rfl (by decide) ?_ ?_; (focus (go_simp; done))) | (refine listF_nil ?_) | (refine region_F ?_) | (refine cond_F true ?_ ?_; (focus (go_simp; done)); simp only [if_true]) | (refine cond_F false ?_ ?_; (focus (go_simp; done)); simp only [Bool.false_eq_true, if_false]) | (with_reducible go_step))
    refine ret_F (.tuple #[.slice none 0 0, .agg #[.int .i64 0, .int .i64 0, .int .i64 0, .int .i64 0], .int .i64 (dayErr W till)]) (res_tct (ad := ⟨w.heap.size + 1, 0, none⟩) Try.results27 ((getD_F (by simp)).trans (by go_simp)) ((getD_F (by simp)).trans (by go_simp)) (load_tot (kz0.cell 0 rfl) (kz0.cell 1 rfl) (kz0.cell 2 rfl) (kz0.cell 3 rfl)) ((getD_F (by simp)).trans (by go_simp))) ?_
    exact ⟨none, 0, by rw [Hb.out]; rfl, by rw [Hb.out]; exact .inl rfl, (HB2.out.alloc (by omega) _).trans (hwz.low (N := w.heap.size) (by simp; omega) (by simp))⟩

end Go.Proofs.Ytbjgebbfachgfaa
