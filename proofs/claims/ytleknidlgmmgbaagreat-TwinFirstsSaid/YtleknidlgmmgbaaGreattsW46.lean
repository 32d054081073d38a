/- The days of each unit, in a map of the call's own. -/
import Derived.Test.YtleknidlgmmgbaaGreattsW18
import Derived.Test.YtleknidlgmmgbaaGreattsW45
import Derived.Test.YtleknidlgmmgbaaGreattsW29
import Derived.Test.YtleknidlgmmgbaaGreattsCZ
set_option linter.all false
namespace Go.Proofs.YtleknidlgmmgbaaGreat

section
open Go.RowKit


abbrev kvI (n : Int) : Value := .int .i64 n
abbrev nilS : Value := .slice none 0 0
def fltN (fs : List Flt) (n : Int) : List Flt := fs.filter fun f => decide (f.done = n)
theorem fltN_snoc (fs : List Flt) (f : Flt) (n : Int) : fltN (fs ++ [f]) n = if f.done = n then fltN fs n ++ [f] else fltN fs n := by
  unfold fltN; rw [List.filter_append]; by_cases h : f.done = n <;> simp [h]
theorem fltN_len (fs : List Flt) (n : Int) : (fltN fs n).length ≤ fs.length := List.length_filter_le _ _
abbrev tC (s : St4) (A : SA) (bm : Nat) (k : Int) : List Value := [.slice A.sa s.store.length A.sc, .slice A.ta s.tape.length A.tc, .int .i64 s.taken, .slice A.pa s.printed.length A.pc, .int .i64 s.time, .int .i64 s.pc, .int .i64 s.done, .int .i64 s.why, .map (some bm), .int .i64 k]
theorem KI : Maps.Keyed Tryz.prog 3 := Maps.int_keyed (q := .i64) Tryz.underlying3
theorem keyI {n : Int} (h : -9223372036854775808 ≤ n ∧ n ≤ 9223372036854775807) : keyOf Tryz.prog 3 (kvI n) = some (.int .i64 n) := Maps.keyOf_int_mk (q := .i64) Tryz.underlying3 (wf_of h.1 h.2)
theorem zeroFl (w : World) : (zeroValue 25).run Tryz.prog w = .ok nilS w := by kernel_rfl
theorem info_fl : (Tryz.prog.info? 55).map (fun i => (i.zero, i.size, i.bytes)) = some (some (.agg #[.int .i64 0, .int .i64 0, .int .i64 0]), 3, 24) := by kernel_rfl
theorem flt_one (x : Flt) : ∀ u ∈ Flt.cs x, u.oneCell' = true := by intro u hu; simp [Flt.cs] at hu; rcases hu with h | h | h <;> subst h <;> rfl
/-- the faults, by the order ahead of which they happen, in a map of the call's own -/
structure SMap (w : World) (b NB k : Nat) (fs : List Flt) (g : Int → Option Value) : Prop where
  mp : MapV Tryz.prog 3 kvI w b k g
  own : ∀ n, Own Flt.cs 3 55 NB w ((g n).getD nilS) (fltN fs n)
  ap : ∀ n m, n ≠ m → Apart ((g n).getD nilS) ((g m).getD nilS)
theorem SMap.start {w : World} {b NB : Nat} (h : MapV Tryz.prog 3 kvI w b 0 (fun _ => none)) : SMap w b NB 0 [] (fun _ => none) :=
  ⟨h, fun _ => Own.nil _ _ _ _ _, fun _ _ _ k hk => by simp [nilS, Value.ownBlock] at hk⟩
theorem SMap.at {w w' : World} {b NB k : Nat} {fs : List Flt} {g : Int → Option Value} (h : SMap w b NB k fs g) (hb : Below w.heap.size w w') : SMap w' b NB k fs g := ⟨h.mp.at hb, fun n => Own.at (h.own n) hb, h.ap⟩
theorem SMap.oldB {w w' : World} {b NB k : Nat} {fs : List Flt} {g : Int → Option Value} (h : SMap w b NB k fs g) {Bs : List Nat} (ho : OldB Bs w w') (hb : b ∉ Bs) (hn : ∀ n x, ((g n).getD nilS).ownBlock = some x → x ∉ Bs) : SMap w' b NB k fs g := ⟨h.mp.oldB ho hb, fun n => Own.oldB (h.own n) ho (hn n), h.ap⟩
/-- all but what lies at one key -/
structure SMX (w : World) (b NB k : Nat) (fs : List Flt) (g : Int → Option Value) (n0 : Int) : Prop where
  mp : MapV Tryz.prog 3 kvI w b k g
  own : ∀ n, n ≠ n0 → Own Flt.cs 3 55 NB w ((g n).getD nilS) (fltN fs n)
theorem SMX.alloc {w : World} {b NB k : Nat} {fs : List Flt} {g : Int → Option Value} {n0 : Int} (h : SMX w b NB k fs g n0) (o : Obj) : SMX (w.alloc o) b NB k fs g n0 := ⟨h.mp.at (below_alloc1 _ _), fun n hn => (h.own n hn).alloc o⟩
theorem SMX.grown {w w' : World} {b NB k : Nat} {fs : List Flt} {g : Int → Option Value} {n0 : Int} (h : SMX w b NB k fs g n0) (ap : ∀ n m, n ≠ m → Apart ((g n).getD nilS) ((g m).getD nilS)) {v : Value} (hv : v = (g n0).getD nilS) (hg : w.grownBy w' v.ownBlock) (hb : v.ownBlock ≠ some b) : SMX w' b NB k fs g n0 :=
  ⟨h.mp.grown hg hb, fun n hn => Own.grown (h.own n hn) hg (by rw [hv]; exact ap n n0 hn)⟩
theorem SMap.step {w : World} {b NB k NW : Nat} {fs : List Flt} {g : Int → Option Value} {y : Flt} {v' : Value} (ap : ∀ n m, n ≠ m → Apart ((g n).getD nilS) ((g m).getD nilS)) (hlt : ∀ n x, ((g n).getD nilS).ownBlock = some x → x < NW)
    (hm : MapV Tryz.prog 3 kvI w b (k + 1) (fun m => if m = y.done then some v' else g m)) (ho : ∀ n, n ≠ y.done → Own Flt.cs 3 55 NB w ((g n).getD nilS) (fltN fs n)) (hO : Own Flt.cs 3 55 NB w v' (fltN fs y.done ++ [y]))
    (hV : ∀ x, v'.ownBlock = some x → ((g y.done).getD nilS).ownBlock = some x ∨ NW ≤ x) : SMap w b NB (k + 1) (fs ++ [y]) (fun m => if m = y.done then some v' else g m) := by
  have key : ∀ n, n ≠ y.done → Apart ((g n).getD nilS) v' := fun n hn x hx hv => by
    rcases hV x hv with h | h
    · exact ap n y.done hn x hx h
    · have := hlt n x hx; omega
  refine ⟨hm, fun n => ?_, fun n m hnm => ?_⟩
  · rw [fltN_snoc]
    by_cases e : n = y.done
    · subst e; simpa using hO
    · simp only [if_neg e, if_neg (fun h => e h.symm : ¬ y.done = n)]; exact ho n e
  · by_cases e : n = y.done
    · have e2 : ¬ m = y.done := fun h => hnm (e.trans h.symm)
      simp only [if_pos e, if_neg e2, Option.getD_some]; exact (key m e2).symm
    · by_cases e2 : m = y.done
      · simp only [if_neg e, if_pos e2, Option.getD_some]; exact key n e
      · simp only [if_neg e, if_neg e2]; exact ap n m hnm
/-- a machine of twin at work: nothing of it lies in a block of av -/
def TW (av : List Nat) (w : World) (M : Nat) (s : St4) (fs : List Flt) (n : Int) : Prop :=
  ∃ A bm k g, Cells w M (tC s A bm n) ∧ RdSt w s A ∧ A.free s M ∧ MapV Tryz.prog 3 kvI w bm k g ∧ bm ≠ M ∧
    (∀ n, ∃ a c, (g n).getD nilS = .slice a (fltN fs n).length c ∧ RdFl w a (fltN fs n) ∧ (fltN fs n ≠ [] → ∀ b, a = some b → b.block ≠ M ∧ b.block ∉ av)) ∧ M ∉ av ∧ bm ∉ av ∧ ∀ k ∈ av, A.free s k

theorem XW46b {A : Prop} (e : A := by
 rintro LJ sJ wJ hL hd ⟨kB0, kB1, kLow, kSz, kMap, kZa, kZb, kZc, kM2, kV9, kSW, hs5, hs7, hs12, hs13, hs14, hv0, hv1, hv2, hv3, hv4, hv5, hv6, hv7, hv8, hv9, hv10, hv11, hv12, hv13, kP0, kW14, kW15, kEP0_W14, kEW14_W15⟩ K hK
 clear hd; rw [if_pos (by rfl)]; unfold opF; go_simp
 refine hK _ _ ⟨?_, ?_, ?_, ?_, ?_, ?_, ?_, ?_, ?_, ?_, ?_, ?_, ?_, ?_, ?_, ?_, ?_, ?_, ?_, ?_, ?_, ?_, ?_, ?_, ?_, ?_, ?_, ?_, ?_, ?_, ?_, ?_, ?_, ?_, ?_⟩ <;> first | assumption | (simp [upd, updS]; done) | (simp [upd, updS]; assumption)) : A := e
set_option maxRecDepth 100000 in
set_option maxHeartbeats 16000000 in
theorem tstart_any (s : St4) (A : SA) (af : Option Addr) (cf : Nat) (fs : List Flt) (w : World) (hR : RdSt w s A) (hF : RdFl w af fs) (hf10 : fs.length ≤ 10) (hfo : FOk fs) :
    Calls Tryz.prog 44 #[.agg #[.slice A.sa s.store.length A.sc, .slice A.ta s.tape.length A.tc, .int .i64 s.taken, .slice A.pa s.printed.length A.pc, .int .i64 s.time, .int .i64 s.pc, .int .i64 s.done, .int .i64 s.why], .slice af fs.length cf] w (fun e w' => ∃ M, e = .returned (.pointer (some ⟨M, 0, none⟩)) ∧ w.heap.size ≤ M ∧ (∀ av, (∀ k ∈ av, k < w.heap.size ∧ A.free s k) → TW av w' M s fs 0) ∧ Below w.heap.size w w') := by
 have HR := hid hR; have HF := hid hF; have Hfo := hid hfo; clear hR hF hfo; obtain ⟨i0, hi0, hz0, hy0, hx0⟩ := info_parts info_fl
 refine enter_F Tryz.func44 rfl Tryz.ntmps44 (by simp) ?_
 intro s0 hs; have sl0 : s0 0 = .agg #[.slice A.sa s.store.length A.sc, .slice A.ta s.tape.length A.tc, .int .i64 s.taken, .slice A.pa s.printed.length A.pc, .int .i64 s.time, .int .i64 s.pc, .int .i64 s.done, .int .i64 s.why] := hs 0 (by simp); have sl1 : s0 1 = .slice af fs.length cf := hs 1 (by simp); clear hs; have HB := hid (OldB.refl [] w)
 refine nr ?_; intros; refine pa (fun w1 B2 hB kb2 hb2 => ?_); have gb2 := HB.out.gB hB; have eb2 := eB hB; clear hB; replace HB := bE HB hb2; clear hb2; have qb2 := kb2.1; refine pl ?_; clear sl0; refine lx [2] ?_; clear sl1; intro s3 sl1 sl2; refine lr ?_; intros; have cb2 := clx kb2; refine pl ?_; obtain ⟨bm, hbm⟩ : ∃ b, b = w1.heap.size := ⟨_, rfl⟩; have gbm := HB.out.gB hbm; have obm_b2 := oB qb2 hbm; refine listF_step rfl (fun K' hK => ?_); refine opF_makeMap (d := 9) (T := 92) (kt := 3) (kv := kvI) rfl (by decide) rfl (fun w4 hmp hb5 => hK _ _ ?_); clear hK K'; rw [← hbm] at hmp
 (try rw [← hbm])
 have lbm := hmp.lt; clear hbm; clear cb2; clear qb2; revert HB; revert kb2; refine uA hb5 ?_; clear hb5; intro kb2 qb2 HB; refine pl ?_; refine pa (fun w6 B11 hB kb11 hb7 => ?_); have gb11 := HB.out.gB hB; have ob2_b11 := oB qb2 hB; have eb11 := eB hB; clear hB; clear qb2; replace hmp := MapV.at hmp hb7; revert HB; revert kb2; refine uA hb7 ?_; clear hb7; intro kb2 qb2 HB; have qb11 := kb11.1; refine pl ?_; clear sl2; refine lx [5] ?_; clear sl1; intro s8 sl1 sl5; refine lr ?_; intros; refine P2 ?_; obtain ⟨NB, hNB⟩ : ∃ n, n = w6.heap.size := ⟨_, rfl⟩; have gNB := HB.out.gB hNB; have oMB : B11 < NB := oB qb11 hNB
 have obB : bm < NB := by have := hmp.lt; omega
 have hNBw : NB ≤ w6.heap.size := by omega
 clear hNB; refine pl ?_; clear sl1; refine lx [12,13,14] ?_; clear sl5; intro s9 sl5 sl12 sl13 sl14; refine ln ?_; intros
 clear qb2 qb11; have hc0_5 := hid sl5; have hc0_12 := hid sl12; have hc0_13 := hid sl13; refine loop_F (n := 36) (fun kJ sJ wJ => ∃ (i : Nat) (g : Int → Option Value), kJ = fs.length - i ∧ sJ 14 = .int .i64 (i : Int) ∧ sJ 5 = s9 5 ∧ sJ 12 = s9 12 ∧ sJ 13 = s9 13 ∧ OldB [] w wJ ∧ i ≤ fs.length ∧ Cells wJ B11 (tC s A bm 0) ∧ NB ≤ wJ.heap.size ∧ SMap wJ bm NB i (fs.take i) g) ⟨0, (fun _ => none), rfl, (by first | exact sl14 | (rw [sl14]; go_num) | (rw [sl14]; rfl)), rfl, rfl, rfl, HB.out, Nat.zero_le _, kb11, hNBw, SMap.start hmp⟩ ?_; clear sl14 kb2 kb11 hmp HB; rintro kJ s10 w11 ⟨i, g, rfl, sl14, e5, e12, e13, HB', hil, k11x, hNBx, hS⟩; replace sl5 := e5.trans sl5; clear e5; replace sl12 := e12.trans sl12; clear e12; replace sl13 := e13.trans sl13; clear e13; have HB := hid HB'; clear HB'; have kb11 := k11x; clear k11x; have qb11 := kb11.1
 refine nr ?_; intros; refine pl ?_; refine lx [15] ?_; clear sl5 sl12 sl13 sl14; intro s12 sl5 sl12 sl13 sl14 sl15; refine ln ?_; intros
 refine cond_E sl15 (by decide) ?_ ?_ <;> (clear sl15; intro h15 sl15)
 ·skip
  have hi : i < fs.length := by simpa using h15
  have hii : (i : Int) < fs.length := by omega
  obtain ⟨bf, of, hae, hbs, d0, d1, d2⟩ := RdFl.ne (Rd.oldB HF.out HB.out (by simp)) hi; subst hae; obtain ⟨y, hy⟩ : ∃ y, fs[i] = y := ⟨_, rfl⟩; rw [hy] at d0 d1 d2; have hyf := Hfo.out y (by rw [← hy]; exact List.getElem_mem hi); have hyb := hid (show -9223372036854775808 ≤ y.done ∧ y.done ≤ 9223372036854775807 by omega); have Hy := hid hy; have Hob := hid (show ∀ n x, ((g n).getD nilS).ownBlock = some x → x < w11.heap.size from fun n x hx => (World.ownsRow.lt (hS.own n) x hx).2); have hMs := hS.mp.lt; clear hy hyf
  refine nr ?_; intros; refine P2 ?_; refine pa (fun w13 B7 hB kb7 hb14 => ?_); have gb7 := HB.out.gB hB; have ob11_b7 := oB qb11 hB; have eb7 := eB hB; clear hB; clear qb11; replace hS := SMap.at hS hb14; revert HB; revert kb11; refine uA hb14 ?_; clear hb14; intro kb11 qb11 HB; have qb7 := kb7.1; have cb7 := clx kb7; have zb7 := kb7.2.2; refine pl ?_; refine sto kb7 ?_; clear kb7 cb7 zb7; intro w15 kb7 hb16; clear qb11 qb7; replace hS := SMap.oldB hS hb16 (by simp; omega) (fun n x hx => by have := Hob.out n x hx; simp; omega); revert HB; revert kb11; refine uO hb16 ?_; clear hb16; intro kb11 qb11 HB; have qb7 := kb7.1; clear sl15; refine lx [7] ?_; clear sl5 sl12 sl13 sl14; intro s17 sl5 sl12 sl13 sl14 sl7; refine ln ?_; intros
  clear qb11 qb7; obtain ⟨NW, hNW⟩ : ∃ n, n = w15.heap.size := ⟨_, rfl⟩; have hlw := HB.out.toBelow; have hb79 := kb7.1; obtain ⟨v0, hv0⟩ : ∃ v, v = (g y.done).getD nilS := ⟨_, rfl⟩; have hP0 := hS.own y.done; rw [← hv0] at hP0
  have hvb7 : v0.ownBlock ≠ some B7 := fun e => by rw [hv0] at e; have := Hob.out y.done _ e; omega
  have hvMx : v0.ownBlock ≠ some B11 := fun e => by have := (World.ownsRow.lt hP0 _ e).1; omega
  have hvbm : v0.ownBlock ≠ some bm := fun e => by have := (World.ownsRow.lt hP0 _ e).1; omega
  have hlt : ∀ n x, ((g n).getD nilS).ownBlock = some x → x < NW := fun n x hx => by rw [hNW]; exact (World.ownsRow.lt (hS.own n) x hx).2
  have hky := keyI (n := y.done) hyb.out; have Hv0 := hid hv0; have hsmx : SMX w15 bm NB i (fs.take i) g y.done := ⟨hS.mp, fun n _ => hS.own n⟩; have hap := hS.ap
  have hNWs : NW ≤ w15.heap.size := by omega
  have hyl : (fltN (fs.take i) y.done).length ≤ 10 := Nat.le_trans (fltN_len _ _) (by simp; omega); clear hv0; refine cut_any (fun sJ wJ => ∃ v', SMap wJ bm NB (i + 1) (fs.take i ++ [y]) (fun m => if m = y.done then some v' else g m) ∧ Cells wJ B11 (tC s A bm 0) ∧ sJ 5 = .pointer (some ⟨B11, 0, none⟩) ∧ sJ 12 = .slice (some ⟨bf, of, none⟩) fs.length cf ∧ sJ 13 = .int .i64 (fs.length : Int) ∧ sJ 14 = .int .i64 (i : Int) ∧ NB ≤ wJ.heap.size ∧ Below w.heap.size w wJ) ?_ ?_
  · refine regionI_F (fun (LJ : Nat → Bool) (sJ : Nat → Value) (wJ : World) => Cells wJ B11 [Value.slice A.sa s.store.length A.sc, Value.slice A.ta s.tape.length A.tc, .int .i64 s.taken, Value.slice A.pa s.printed.length A.pc, .int .i64 s.time, .int .i64 s.pc, .int .i64 s.done, .int .i64 s.why, Value.map (some bm), .int .i64 0] ∧ Cells wJ B7 [.int .i64 y.done, .int .i64 y.addr, .int .i64 y.mask] ∧ Below w.heap.size w wJ ∧ NB ≤ wJ.heap.size ∧ (LJ 16 = false → SMX wJ bm NB i (fs.take i) g y.done) ∧ (LJ 16 = true → LJ 14 = true) ∧ (LJ 16 = true → LJ 15 = true) ∧ (LJ 16 = true → LJ 12 = true) ∧ (LJ 16 = true → MapV Tryz.prog 3 kvI wJ bm (i + 1) (fun m => if m = y.done then some (sJ 33) else g m) ∧ ∀ n, n ≠ y.done → Own Flt.cs 3 55 NB wJ ((g n).getD nilS) (fltN (fs.take i) n)) ∧ (LJ 15 = true → ∀ x, (sJ 33).ownBlock = some x → v0.ownBlock = some x ∨ NW ≤ x) ∧ NW ≤ wJ.heap.size ∧ sJ 5 = .pointer (some ⟨B11, 0, none⟩) ∧ sJ 7 = .pointer (some ⟨B7, 0, none⟩) ∧ sJ 12 = .slice (some ⟨bf, of, none⟩) fs.length cf ∧ sJ 13 = .int .i64 (fs.length : Int) ∧ sJ 14 = .int .i64 (i : Int) ∧ (LJ 0 = true → sJ 18 = .pointer (some ⟨B11, 0, none⟩)) ∧ (LJ 1 = true → sJ 19 = .pointer (some ⟨B11, 0, none⟩)) ∧ (LJ 2 = true → sJ 20 = .pointer (some ⟨B11, 8, none⟩)) ∧ (LJ 3 = true → sJ 21 = Value.map (some bm)) ∧ (LJ 4 = true → sJ 22 = .pointer (some ⟨B7, 0, none⟩)) ∧ (LJ 5 = true → sJ 23 = .int .i64 y.done) ∧ (LJ 6 = true → sJ 24 = .pointer (some ⟨B11, 0, none⟩)) ∧ (LJ 7 = true → sJ 25 = .pointer (some ⟨B11, 0, none⟩)) ∧ (LJ 8 = true → sJ 26 = .pointer (some ⟨B11, 8, none⟩)) ∧ (LJ 9 = true → sJ 27 = Value.map (some bm)) ∧ (LJ 10 = true → sJ 28 = .pointer (some ⟨B7, 0, none⟩)) ∧ (LJ 11 = true → sJ 29 = .int .i64 y.done) ∧ (LJ 12 = true → sJ 30 = v0) ∧ (LJ 13 = true → sJ 31 = .agg #[.int .i64 y.done, .int .i64 y.addr, .int .i64 y.mask]) ∧ (LJ 15 = false → Own Flt.cs 3 55 NB wJ v0 (fltN (fs.take i) y.done)) ∧ (LJ 14 = true → Own Flt.cs 3 55 NB wJ (sJ 32) [y]) ∧ (LJ 15 = true → Own Flt.cs 3 55 NB wJ (sJ 33) (fltN (fs.take i) y.done ++ [y])) ∧ (LJ 15 = false → LJ 14 = true → Apart v0 (sJ 32)) ∧ (LJ 14 = true → LJ 15 = true → Apart (sJ 32) (sJ 33))) (by kernel_rfl) (by kernel_rfl) (by kernel_rfl) ?_ ?_ ⟨?_, ?_, ?_, ?_, ?_, ?_, ?_, ?_, ?_, ?_, ?_, ?_, ?_, ?_, ?_, ?_, ?_, trivial⟩
    · refine ⟨(by repeat (first | (with_reducible exact kb11) | (with_reducible refine Cells.drew ?_) | (with_reducible refine Cells.up ?_ _) | (with_reducible refine Cells.setFar ?_ (by omega)))), (by repeat (first | (with_reducible exact kb7) | (with_reducible refine Cells.drew ?_) | (with_reducible refine Cells.up ?_ _) | (with_reducible refine Cells.setFar ?_ (by omega)))), (by repeat (first | (with_reducible exact hlw) | (with_reducible refine bdrewN ?_ _) | (with_reducible refine Below.drew ?_) | (with_reducible refine Below.setCell ?_ (by first | omega | (simp; done) | (simp; omega)) _) | (with_reducible refine Below.alloc ?_ (by first | omega | (simp; done) | (simp; omega)) _))), (by first | omega | (simp; done) | (simp; omega)), ((fun _ => ⟨hsmx.mp, hsmx.own⟩)), ((fun h => by simp at h)), ((fun h => by simp at h)), ((fun h => by simp at h)), ((fun h => by simp at h)), ((fun h => by simp at h)), (hNWs), ?_, ?_, ?_, ?_, ?_, (by simp), (by simp), (by simp), (by simp), (by simp), (by simp), (by simp), (by simp), (by simp), (by simp), (by simp), (by simp), (by simp), (by simp), (fun _ => hP0), (by simp), (by simp), (by simp), (by simp)⟩
      · go_simp
      · go_simp
      · go_simp
      · go_simp
      · go_simp
    · rintro sJ wJ ⟨kB0, kB1, kLow, kSz, kMap, kZa, kZb, kZc, kM2, kV9, kSW, hs5, hs7, hs12, hs13, hs14, hv0, hv1, hv2, hv3, hv4, hv5, hv6, hv7, hv8, hv9, hv10, hv11, hv12, hv13, kP0, kW14, kW15, kEP0_W14, kEW14_W15⟩
      replace hv0 := hv0 (by simp); replace hv1 := hv1 (by simp); replace hv2 := hv2 (by simp); replace hv3 := hv3 (by simp); replace hv4 := hv4 (by simp); replace hv5 := hv5 (by simp); replace hv6 := hv6 (by simp); replace hv7 := hv7 (by simp); replace hv8 := hv8 (by simp); replace hv9 := hv9 (by simp); replace hv10 := hv10 (by simp); replace hv11 := hv11 (by simp); replace hv12 := hv12 (by simp); replace hv13 := hv13 (by simp); clear kP0; replace kW14 := kW14 (by simp); replace kW15 := kW15 (by simp); clear kEP0_W14; replace kEW14_W15 := kEW14_W15 (by simp) (by simp); obtain ⟨hm9, ho9⟩ := kM2 (by simp); have hv9 := kV9 (by simp); exact ⟨trv, _, rfl, sJ 33, SMap.step hap hlt hm9 ho9 kW15 (by rw [← Hv0.out]; exact hv9), kB0, hs5, hs12, hs13, hs14, kSz, kLow⟩
    · exact XW46b
    · rintro LJ sJ wJ hL hd ⟨kB0, kB1, kLow, kSz, kMap, kZa, kZb, kZc, kM2, kV9, kSW, hs5, hs7, hs12, hs13, hs14, hv0, hv1, hv2, hv3, hv4, hv5, hv6, hv7, hv8, hv9, hv10, hv11, hv12, hv13, kP0, kW14, kW15, kEP0_W14, kEW14_W15⟩ K hK
      have ga0 := hd ⟨0, .data⟩ (by simp) rfl; have gv0 := hv0 ga0; clear hd; rw [if_pos (by rfl)]; unfold opF; go_simp
      refine hK _ _ ⟨?_, ?_, ?_, ?_, ?_, ?_, ?_, ?_, ?_, ?_, ?_, ?_, ?_, ?_, ?_, ?_, ?_, ?_, ?_, ?_, ?_, ?_, ?_, ?_, ?_, ?_, ?_, ?_, ?_, ?_, ?_, ?_, ?_, ?_, ?_⟩ <;> first | assumption | (simp [upd, updS]; done) | (simp [upd, updS]; assumption)
    · rintro LJ sJ wJ hL hd ⟨kB0, kB1, kLow, kSz, kMap, kZa, kZb, kZc, kM2, kV9, kSW, hs5, hs7, hs12, hs13, hs14, hv0, hv1, hv2, hv3, hv4, hv5, hv6, hv7, hv8, hv9, hv10, hv11, hv12, hv13, kP0, kW14, kW15, kEP0_W14, kEW14_W15⟩ K hK
      have ga1 := hd ⟨1, .data⟩ (by simp) rfl; have gv1 := hv1 ga1; clear hd; rw [if_pos (by rfl)]; unfold opF; go_simp
      refine hK _ _ ⟨?_, ?_, ?_, ?_, ?_, ?_, ?_, ?_, ?_, ?_, ?_, ?_, ?_, ?_, ?_, ?_, ?_, ?_, ?_, ?_, ?_, ?_, ?_, ?_, ?_, ?_, ?_, ?_, ?_, ?_, ?_, ?_, ?_, ?_, ?_⟩ <;> first | assumption | (simp [upd, updS]; done) | (simp [upd, updS]; assumption)
    · rintro LJ sJ wJ hL hd ⟨kB0, kB1, kLow, kSz, kMap, kZa, kZb, kZc, kM2, kV9, kSW, hs5, hs7, hs12, hs13, hs14, hv0, hv1, hv2, hv3, hv4, hv5, hv6, hv7, hv8, hv9, hv10, hv11, hv12, hv13, kP0, kW14, kW15, kEP0_W14, kEW14_W15⟩ K hK
      have ga2 := hd ⟨2, .data⟩ (by simp) rfl; have gv2 := hv2 ga2; clear hd; rw [if_pos (by rfl)]; unfold opF; obtain ⟨cc0_0, cc0_1, cc0_2, cc0_3, cc0_4, cc0_5, cc0_6, cc0_7, cc0_8, cc0_9⟩ := cl10 kB0; have ccs0 := kB0.1; go_simp
      refine hK _ _ ⟨?_, ?_, ?_, ?_, ?_, ?_, ?_, ?_, ?_, ?_, ?_, ?_, ?_, ?_, ?_, ?_, ?_, ?_, ?_, ?_, ?_, ?_, ?_, ?_, ?_, ?_, ?_, ?_, ?_, ?_, ?_, ?_, ?_, ?_, ?_⟩ <;> first | assumption | (simp [upd, updS]; done) | (simp [upd, updS]; assumption)
    · exact XW46b
    · rintro LJ sJ wJ hL hd ⟨kB0, kB1, kLow, kSz, kMap, kZa, kZb, kZc, kM2, kV9, kSW, hs5, hs7, hs12, hs13, hs14, hv0, hv1, hv2, hv3, hv4, hv5, hv6, hv7, hv8, hv9, hv10, hv11, hv12, hv13, kP0, kW14, kW15, kEP0_W14, kEW14_W15⟩ K hK
      have ga4 := hd ⟨4, .data⟩ (by simp) rfl; have gv4 := hv4 ga4; clear hd; rw [if_pos (by rfl)]; unfold opF; obtain ⟨cc1_0, cc1_1, cc1_2⟩ := cl3 kB1; have ccs1 := kB1.1; go_simp
      refine hK _ _ ⟨?_, ?_, ?_, ?_, ?_, ?_, ?_, ?_, ?_, ?_, ?_, ?_, ?_, ?_, ?_, ?_, ?_, ?_, ?_, ?_, ?_, ?_, ?_, ?_, ?_, ?_, ?_, ?_, ?_, ?_, ?_, ?_, ?_, ?_, ?_⟩ <;> first | assumption | (simp [upd, updS]; done) | (simp [upd, updS]; assumption)
    · exact XW46b
    · rintro LJ sJ wJ hL hd ⟨kB0, kB1, kLow, kSz, kMap, kZa, kZb, kZc, kM2, kV9, kSW, hs5, hs7, hs12, hs13, hs14, hv0, hv1, hv2, hv3, hv4, hv5, hv6, hv7, hv8, hv9, hv10, hv11, hv12, hv13, kP0, kW14, kW15, kEP0_W14, kEW14_W15⟩ K hK
      have ga6 := hd ⟨6, .data⟩ (by simp) rfl; have gv6 := hv6 ga6; clear hd; rw [if_pos (by rfl)]; unfold opF; go_simp
      refine hK _ _ ⟨?_, ?_, ?_, ?_, ?_, ?_, ?_, ?_, ?_, ?_, ?_, ?_, ?_, ?_, ?_, ?_, ?_, ?_, ?_, ?_, ?_, ?_, ?_, ?_, ?_, ?_, ?_, ?_, ?_, ?_, ?_, ?_, ?_, ?_, ?_⟩ <;> first | assumption | (simp [upd, updS]; done) | (simp [upd, updS]; assumption)
    · rintro LJ sJ wJ hL hd ⟨kB0, kB1, kLow, kSz, kMap, kZa, kZb, kZc, kM2, kV9, kSW, hs5, hs7, hs12, hs13, hs14, hv0, hv1, hv2, hv3, hv4, hv5, hv6, hv7, hv8, hv9, hv10, hv11, hv12, hv13, kP0, kW14, kW15, kEP0_W14, kEW14_W15⟩ K hK
      have ga7 := hd ⟨7, .data⟩ (by simp) rfl; have gv7 := hv7 ga7; clear hd; rw [if_pos (by rfl)]; unfold opF; go_simp
      refine hK _ _ ⟨?_, ?_, ?_, ?_, ?_, ?_, ?_, ?_, ?_, ?_, ?_, ?_, ?_, ?_, ?_, ?_, ?_, ?_, ?_, ?_, ?_, ?_, ?_, ?_, ?_, ?_, ?_, ?_, ?_, ?_, ?_, ?_, ?_, ?_, ?_⟩ <;> first | assumption | (simp [upd, updS]; done) | (simp [upd, updS]; assumption)
    · rintro LJ sJ wJ hL hd ⟨kB0, kB1, kLow, kSz, kMap, kZa, kZb, kZc, kM2, kV9, kSW, hs5, hs7, hs12, hs13, hs14, hv0, hv1, hv2, hv3, hv4, hv5, hv6, hv7, hv8, hv9, hv10, hv11, hv12, hv13, kP0, kW14, kW15, kEP0_W14, kEW14_W15⟩ K hK
      have ga8 := hd ⟨8, .data⟩ (by simp) rfl; have gv8 := hv8 ga8; clear hd; rw [if_pos (by rfl)]; unfold opF; obtain ⟨cc0_0, cc0_1, cc0_2, cc0_3, cc0_4, cc0_5, cc0_6, cc0_7, cc0_8, cc0_9⟩ := cl10 kB0; have ccs0 := kB0.1; go_simp
      refine hK _ _ ⟨?_, ?_, ?_, ?_, ?_, ?_, ?_, ?_, ?_, ?_, ?_, ?_, ?_, ?_, ?_, ?_, ?_, ?_, ?_, ?_, ?_, ?_, ?_, ?_, ?_, ?_, ?_, ?_, ?_, ?_, ?_, ?_, ?_, ?_, ?_⟩ <;> first | assumption | (simp [upd, updS]; done) | (simp [upd, updS]; assumption)
    · exact XW46b
    · rintro LJ sJ wJ hL hd ⟨kB0, kB1, kLow, kSz, kMap, kZa, kZb, kZc, kM2, kV9, kSW, hs5, hs7, hs12, hs13, hs14, hv0, hv1, hv2, hv3, hv4, hv5, hv6, hv7, hv8, hv9, hv10, hv11, hv12, hv13, kP0, kW14, kW15, kEP0_W14, kEW14_W15⟩ K hK
      have ga10 := hd ⟨10, .data⟩ (by simp) rfl; have gv10 := hv10 ga10; clear hd; rw [if_pos (by rfl)]; unfold opF; obtain ⟨cc1_0, cc1_1, cc1_2⟩ := cl3 kB1; have ccs1 := kB1.1; go_simp
      refine hK _ _ ⟨?_, ?_, ?_, ?_, ?_, ?_, ?_, ?_, ?_, ?_, ?_, ?_, ?_, ?_, ?_, ?_, ?_, ?_, ?_, ?_, ?_, ?_, ?_, ?_, ?_, ?_, ?_, ?_, ?_, ?_, ?_, ?_, ?_, ?_, ?_⟩ <;> first | assumption | (simp [upd, updS]; done) | (simp [upd, updS]; assumption)
    · rintro LJ sJ wJ hL hd ⟨kB0, kB1, kLow, kSz, kMap, kZa, kZb, kZc, kM2, kV9, kSW, hs5, hs7, hs12, hs13, hs14, hv0, hv1, hv2, hv3, hv4, hv5, hv6, hv7, hv8, hv9, hv10, hv11, hv12, hv13, kP0, kW14, kW15, kEP0_W14, kEW14_W15⟩ K hK
      have ga9 := hd ⟨9, .data⟩ (by simp) rfl; have gv9 := hv9 ga9; have ga11 := hd ⟨11, .data⟩ (by simp) rfl; have gv11 := hv11 ga11; clear hd; rw [if_pos (by rfl)]; unfold opF
      have n16 : LJ 16 = false := by cases hh : LJ 16 with | false => rfl | true => exact absurd (kZc hh) (by rw [hL]; decide)
      have hlk := MapV.has (kMap n16).mp KI Tryz.underlying92 (zeroFl wJ) (x := y.done) hky false; rw [← Hv0.out] at hlk
      simp only [kvI, Bool.false_eq_true, if_false] at hlk
      go_simp
      refine hK _ _ ⟨?_, ?_, ?_, ?_, ?_, ?_, ?_, ((by simp [upd])), ?_, ?_, ?_, ?_, ?_, ?_, ?_, ?_, ?_, ?_, ?_, ?_, ?_, ?_, ?_, ?_, ?_, ?_, ?_, ?_, ?_, ?_, ?_, ?_, ?_, ?_, ?_⟩ <;> first | assumption | (simp [upd, updS]; done) | (simp [upd, updS]; assumption)
    · rintro LJ sJ wJ hL hd ⟨kB0, kB1, kLow, kSz, kMap, kZa, kZb, kZc, kM2, kV9, kSW, hs5, hs7, hs12, hs13, hs14, hv0, hv1, hv2, hv3, hv4, hv5, hv6, hv7, hv8, hv9, hv10, hv11, hv12, hv13, kP0, kW14, kW15, kEP0_W14, kEW14_W15⟩ K hK
      clear hd; rw [if_pos (by rfl)]; unfold opF; obtain ⟨cc1_0, cc1_1, cc1_2⟩ := cl3 kB1; have ccs1 := kB1.1; go_simp
      refine hK _ _ ⟨?_, ?_, ?_, ?_, ?_, ?_, ?_, ?_, ?_, ?_, ?_, ?_, ?_, ?_, ?_, ?_, ?_, ?_, ?_, ?_, ?_, ?_, ?_, ?_, ?_, ?_, ?_, ?_, ?_, ?_, ?_, ?_, ?_, ?_, ?_⟩ <;> first | assumption | (simp [upd, updS]; done) | (simp [upd, updS]; assumption)
    · rintro LJ sJ wJ hL hd ⟨kB0, kB1, kLow, kSz, kMap, kZa, kZb, kZc, kM2, kV9, kSW, hs5, hs7, hs12, hs13, hs14, hv0, hv1, hv2, hv3, hv4, hv5, hv6, hv7, hv8, hv9, hv10, hv11, hv12, hv13, kP0, kW14, kW15, kEP0_W14, kEW14_W15⟩ K hK
      have ga13 := hd ⟨13, .data⟩ (by simp) rfl; have gv13 := hv13 ga13; clear hd; rw [if_pos (by rfl)]; unfold opF; go_simp; exact hK _ _ ⟨(Cells.up (kB0) _), (Cells.up (kB1) _), (kLow.alloc (by omega) _), (by first | omega | (simp; done) | (simp; omega) | (have := hG.size; omega)), ((fun h => SMX.alloc (kMap (by simpa [upd] using h)) _)), ((by simp [upd])), ((by simpa [upd] using kZb)), ((by simpa [upd] using kZc)), ((fun h => absurd (kZa (by simpa [upd] using h)) (by rw [hL]; decide))), ((fun h => by simpa [upd, updS] using kV9 (by simpa [upd] using h))), ((by simp; omega)), (by simpa [upd, updS] using hs5), (by simpa [upd, updS] using hs7), (by simpa [upd, updS] using hs12), (by simpa [upd, updS] using hs13), (by simpa [upd, updS] using hs14), (by simpa [upd, updS] using hv0), (by simpa [upd, updS] using hv1), (by simpa [upd, updS] using hv2), (by simpa [upd, updS] using hv3), (by simpa [upd, updS] using hv4), (by simpa [upd, updS] using hv5), (by simpa [upd, updS] using hv6), (by simpa [upd, updS] using hv7), (by simpa [upd, updS] using hv8), (by simpa [upd, updS] using hv9), (by simpa [upd, updS] using hv10), (by simpa [upd, updS] using hv11), (by simpa [upd, updS] using hv12), (by simpa [upd, updS] using hv13), (fun h1 => by have h1 := (by simpa [upd] using h1 : LJ 15 = false); simpa [updS] using Own.alloc (kP0 h1) _), (fun _ => by first | exact Own.lit (by omega) (by unfold maxLen; simp) (by rfl) (fun _ => rfl) | (simp only [updS_some, ↓reduceIte]; exact Own.lit (by omega) (by unfold maxLen; simp) (by rfl) (fun _ => rfl)) | (simpa [updS] using Own.lit (by omega) (by unfold maxLen; simp) (by rfl) (fun _ => rfl))), (fun h1 => by have h1 := (by simpa [upd] using h1 : LJ 15 = true); simpa [updS] using Own.alloc (kW15 h1) _), (fun h1 h2 => by have h1 := (by simpa [upd] using h1 : LJ 15 = false); simpa [updS] using Apart.new (kP0 h1) _ _), (fun h1 h2 => by have h2 := (by simpa [upd] using h2 : LJ 15 = true); simpa [updS] using (Apart.new (kW15 h2) _ _).symm)⟩
    · rintro LJ sJ wJ hL hd ⟨kB0, kB1, kLow, kSz, kMap, kZa, kZb, kZc, kM2, kV9, kSW, hs5, hs7, hs12, hs13, hs14, hv0, hv1, hv2, hv3, hv4, hv5, hv6, hv7, hv8, hv9, hv10, hv11, hv12, hv13, kP0, kW14, kW15, kEP0_W14, kEW14_W15⟩ K hK
      have ga12 := hd ⟨12, .data⟩ (by simp) rfl; have gv12 := hv12 ga12; have ga14 := hd ⟨14, .data⟩ (by simp) rfl; clear hd; rw [if_pos (by rfl)]; have hcj : LJ 15 = false := hL; have kWx := kP0 hcj; have kWy := kW14 ga14; obtain ⟨ay, cy, hvy, hry, hny⟩ := Own.slice (f := Flt.cs) (m := 3) (fun _ => rfl) kWy; refine opF_app (d := 33) rfl (by decide) (.tmp 30) (.tmp 32) _ rfl 55 i0 _ 24 Tryz.underlying25 hi0 hz0 hy0 hx0 rfl (by decide) (fun _ => rfl) flt_one NB v0 (fltN (fs.take i) y.done) [y] ay cy (by go_simp) (by simpa using hvy) kWx hry (by simp; unfold maxLen; omega) (by simp; omega) (by omega) (fun v' w' hO hG hV => ?_); exact hK _ _ ⟨(Cells.grown (kB0) hG hvMx), (Cells.grown (kB1) hG hvb7), (low_grown kLow hG (by omega) (fun k hk => by have := (World.ownsRow.lt kWx k hk).1; omega)), (by first | omega | (simp; done) | (simp; omega) | (have := hG.size; omega)), ((fun h => SMX.grown (kMap (by simpa [upd] using h)) hap Hv0.out hG hvbm)), ((by simpa [upd] using kZa)), ((by simp [upd])), ((by simpa [upd] using kZc)), ((fun h => absurd (kZb (by simpa [upd] using h)) (by rw [hL]; decide))), ((fun _ x hx => by have hx' : v'.ownBlock = some x := (by simpa [updS] using hx); have hsz := kSW; rcases hV with e | e <;> rw [e] at hx'; exact .inl hx'; cases hx'; exact .inr hsz)), ((Nat.le_trans kSW hG.size)), (by simpa [upd, updS] using hs5), (by simpa [upd, updS] using hs7), (by simpa [upd, updS] using hs12), (by simpa [upd, updS] using hs13), (by simpa [upd, updS] using hs14), (by simpa [upd, updS] using hv0), (by simpa [upd, updS] using hv1), (by simpa [upd, updS] using hv2), (by simpa [upd, updS] using hv3), (by simpa [upd, updS] using hv4), (by simpa [upd, updS] using hv5), (by simpa [upd, updS] using hv6), (by simpa [upd, updS] using hv7), (by simpa [upd, updS] using hv8), (by simpa [upd, updS] using hv9), (by simpa [upd, updS] using hv10), (by simpa [upd, updS] using hv11), (by simpa [upd, updS] using hv12), (by simpa [upd, updS] using hv13), (fun h1 => by simp [upd] at h1), (fun h1 => by have h1 := (by simpa [upd] using h1 : LJ 14 = true); simpa [updS] using Own.grown (kW14 h1) hG (kEP0_W14 hcj h1).symm), (fun _ => by first | exact hO | (simp only [updS_some, ↓reduceIte]; exact hO) | (simpa [updS] using hO)), (fun h1 h2 => by simp [upd] at h1), (fun h1 h2 => by have h1 := (by simpa [upd] using h1 : LJ 14 = true); simpa [updS] using Apart.app (kW14 h1) (kEP0_W14 hcj h1).symm hV)⟩
    · rintro LJ sJ wJ hL hd ⟨kB0, kB1, kLow, kSz, kMap, kZa, kZb, kZc, kM2, kV9, kSW, hs5, hs7, hs12, hs13, hs14, hv0, hv1, hv2, hv3, hv4, hv5, hv6, hv7, hv8, hv9, hv10, hv11, hv12, hv13, kP0, kW14, kW15, kEP0_W14, kEW14_W15⟩ K hK
      have ga3 := hd ⟨3, .data⟩ (by simp) rfl; have gv3 := hv3 ga3; have ga5 := hd ⟨5, .data⟩ (by simp) rfl; have gv5 := hv5 ga5; have ga15 := hd ⟨15, .data⟩ (by simp) rfl; have ga15 := hd ⟨15, .chain⟩ (by simp) rfl; have ga3 := hd ⟨3, .phase⟩ (by simp) rfl; have gv3 := hv3 ga3; have ga5 := hd ⟨5, .phase⟩ (by simp) rfl; have gv5 := hv5 ga5; have ga11 := hd ⟨11, .phase⟩ (by simp) rfl; have gv11 := hv11 ga11
      have ga12 := hd ⟨12, .phase⟩ (by simp) rfl; have ga14 := hd ⟨14, .phase⟩ (by simp) rfl; have ga15 := hd ⟨15, .phase⟩ (by simp) rfl; clear hd; rw [if_pos (by rfl)]; have kMm := kMap hL; refine opF_put (T := 92) (kt := 3) (E := 25) (kv := kvI) (.tmp 21) (.tmp 23) (.tmp 33) rfl KI Tryz.underlying92 kMm.mp (by omega) (fun x y h => by simpa [kvI] using h) y.done (by go_simp) (by go_simp) hky (fun w' hm2 ho => ?_)
      have hm2 : MapV Tryz.prog 3 kvI w' bm (i + 1) (fun m => if m = y.done then some (sJ 33) else g m) := by simpa using hm2
      exact hK undef _ ⟨(Cells.oldB (kB0) ho (by simp; omega)), (Cells.oldB (kB1) ho (by simp; omega)), (kLow.trans (ho.lowN (by omega) (by simp; omega))), (Nat.le_trans kSz ho.size), ((fun h => by simp [upd] at h)), ((fun _ => by simpa [upd] using ga14)), ((fun _ => by simpa [upd] using ga15)), ((fun _ => by simpa [upd] using ga12)), ((fun _ => ⟨hm2, fun n hn => Own.oldB (kMm.own n hn) ho (fun x hx => by have := (World.ownsRow.lt (kMm.own n hn) x hx).1; simp; omega)⟩)), ((fun h => by simpa [upd, updS] using kV9 (by simpa [upd] using h))), ((Nat.le_trans kSW ho.size)), (by simpa [upd, updS] using hs5), (by simpa [upd, updS] using hs7), (by simpa [upd, updS] using hs12), (by simpa [upd, updS] using hs13), (by simpa [upd, updS] using hs14), (by simpa [upd, updS] using hv0), (by simpa [upd, updS] using hv1), (by simpa [upd, updS] using hv2), (by simpa [upd, updS] using hv3), (by simpa [upd, updS] using hv4), (by simpa [upd, updS] using hv5), (by simpa [upd, updS] using hv6), (by simpa [upd, updS] using hv7), (by simpa [upd, updS] using hv8), (by simpa [upd, updS] using hv9), (by simpa [upd, updS] using hv10), (by simpa [upd, updS] using hv11), (by simpa [upd, updS] using hv12), (by simpa [upd, updS] using hv13), (fun h1 => by have h1 := (by simpa [upd] using h1 : LJ 15 = false); simpa [updS] using Own.oldB (kP0 h1) ho (fun g hg => by have a1 := (World.ownsRow.lt (kP0 h1) g hg).1; simp; omega)), (fun h1 => by have h1 := (by simpa [upd] using h1 : LJ 14 = true); simpa [updS] using Own.oldB (kW14 h1) ho (fun g hg => by have a1 := (World.ownsRow.lt (kW14 h1) g hg).1; simp; omega)), (fun h1 => by have h1 := (by simpa [upd] using h1 : LJ 15 = true); simpa [updS] using Own.oldB (kW15 h1) ho (fun g hg => by have a1 := (World.ownsRow.lt (kW15 h1) g hg).1; simp; omega)), (fun h1 h2 => by have h1 := (by simpa [upd] using h1 : LJ 15 = false); have h2 := (by simpa [upd] using h2 : LJ 14 = true); simpa [updS] using kEP0_W14 h1 h2), (fun h1 h2 => by have h1 := (by simpa [upd] using h1 : LJ 14 = true); have h2 := (by simpa [upd] using h2 : LJ 15 = true); simpa [updS] using kEW14_W15 h1 h2)⟩
  rintro sM5 w18 ⟨v', hS9, k11z, e5, e12, e13, e14, hNz, hbM⟩; clear hS kb11 kb7 sl5 sl7 sl12 sl13 sl14; have sl5 := e5; have sl12 := e12; have sl13 := e13; have sl14 := e14; clear e5 e12 e13 e14; have HB := hid (OldB.nil (Bs := []) hbM); clear hbM hlw
  refine nr ?_; intros; refine P2 ?_; clear sl14; refine lx [14] ?_; clear sl5 sl12 sl13; intro s20 sl5 sl12 sl13 sl14; refine ln ?_; intros
  refine ⟨_, _, rfl, ?_, i + 1, (fun m => if m = y.done then some v' else g m), rfl, (rL sl14), (sl5.trans hc0_5.out.symm), (sl12.trans hc0_12.out.symm), (sl13.trans hc0_13.out.symm), HB.out, by omega, k11z, hNz, (by rw [List.take_succ_eq_append_getElem hi, Hy.out]; exact hS9)⟩
  omega
 ·skip
  have hi : i = fs.length := by have h := h15; simp at h; omega
  refine zx ?_; intros
  clear hc0_5 hc0_12 hc0_13; refine region_F ?_; refine P2 ?_; clear sl5 sl12 sl13 sl14 sl15; refine lx [4] ?_; intro s21 sl4; refine ln ?_; intros
  refine ret_F _ (res_t Tryz.results44 ((getD_F (by decide)).trans sl4)) ?_; rw [hi, List.take_length] at hS; have hMl := kb11.1; refine ⟨B11, rfl, gb11, fun av hav => ⟨A, bm, fs.length, g, kb11, HR.out.old HB.out, HR.out.freeB gb11, hi ▸ hS.mp, by omega, fun n => ?_, fun h => by have := (hav _ h).1; omega, fun h => by have := (hav _ h).1; omega, fun k hk => (hav k hk).2⟩, HB.out.toBelow⟩; obtain ⟨a, c, hv, hr, hn⟩ := Own.slice (f := Flt.cs) (m := 3) (fun _ => rfl) (hS.own n); exact ⟨a, c, hv, hr, fun _ b hb => ⟨by have := hn b hb; omega, fun h => by have := (hav _ h).1; have := hn b hb; omega⟩⟩
end

section
open Go.RowKit

theorem days_snoc (l : List Ent) (x : Ent) (u : Unt) : daysOf (l ++ [x]) u = if x.u = u then daysOf l u ++ [x.day] else daysOf l u := by
  rw [days_append]
  by_cases h : x.u = u
  · rw [if_pos h, days_cons_yes h]; rfl
  · rw [if_neg h, days_cons_no h]; simp [daysOf]
structure UOwn (w : World) (NB : Nat) (l : List Ent) (g : Unt → Option Value) : Prop where
  own : ∀ u, Own int1 1 3 NB w ((g u).getD nilS) (daysOf l u)
  ap : ∀ u v, u ≠ v → Apart ((g u).getD nilS) ((g v).getD nilS)
theorem UOwn.start (w : World) (NB : Nat) : UOwn w NB [] (fun _ => none) := ⟨fun _ => Own.nil _ _ _ _ _, fun _ _ _ k hk => by simp [nilS, Value.ownBlock] at hk⟩
theorem UOwn.at {w w' : World} {NB : Nat} {l : List Ent} {g : Unt → Option Value} (h : UOwn w NB l g) (hb : Below w.heap.size w w') : UOwn w' NB l g := ⟨fun u => Own.at (h.own u) hb, h.ap⟩
theorem UOwn.lt {w : World} {NB : Nat} {l : List Ent} {g : Unt → Option Value} (h : UOwn w NB l g) : ∀ u x, ((g u).getD nilS).ownBlock = some x → NB ≤ x ∧ x < w.heap.size := fun u x hx => World.ownsRow.lt (h.own u) x hx
theorem UOwn.oldB {w w' : World} {NB : Nat} {l : List Ent} {g : Unt → Option Value} (h : UOwn w NB l g) {Bs : List Nat} (ho : OldB Bs w w') (hn : ∀ u x, ((g u).getD nilS).ownBlock = some x → x ∉ Bs) : UOwn w' NB l g := ⟨fun u => Own.oldB (h.own u) ho (hn u), h.ap⟩
theorem UOwn.put {w w' : World} {NB : Nat} {l : List Ent} {g : Unt → Option Value} {x : Ent} {v v' : Value} (h : UOwn w NB l g) (hv : v = (g x.u).getD nilS) (hG : w.grownBy w' v.ownBlock) (hO : Own int1 1 3 NB w' v' (daysOf l x.u ++ [x.day])) (hV : v'.ownBlock = v.ownBlock ∨ v'.ownBlock = some w.heap.size) :
    UOwn w' NB (l ++ [x]) (fun y => if y = x.u then some v' else g y) := by
  have key : ∀ u, u ≠ x.u → Apart ((g u).getD nilS) v' := fun u hu k hk hk2 => by
    rcases hV with e | e
    · rw [e, hv] at hk2; exact h.ap u x.u hu k hk hk2
    · rw [e] at hk2; have := (h.lt u k hk).2; cases hk2; omega
  refine ⟨fun u => ?_, fun u u2 hne => ?_⟩
  · rw [days_snoc]
    by_cases e : u = x.u
    · simp only [if_pos e, if_pos e.symm, Option.getD_some]; rw [e]; exact hO
    · simp only [if_neg e, if_neg (fun h => e h.symm : ¬ x.u = u)]
      exact Own.grown (h.own u) hG (by rw [hv]; exact h.ap u x.u e)
  · by_cases e : u = x.u
    · have e2 : ¬ u2 = x.u := fun h => hne (e.trans h.symm)
      simp only [if_pos e, if_neg e2, Option.getD_some]; exact (key u2 e2).symm
    · by_cases e2 : u2 = x.u
      · simp only [if_neg e, if_pos e2, Option.getD_some]; exact key u e
      · simp only [if_neg e, if_neg e2]; exact h.ap u u2 hne
end


end Go.Proofs.YtleknidlgmmgbaaGreat
