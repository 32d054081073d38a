/- layout: Lay of a layout. -/
import Derived.Test.YtigehmghcafblaalaW29
set_option linter.all false
namespace Go.Proofs.Ytigehmghcafblaa

section
set_option linter.all false
set_option pp.maxSteps 100000
set_option maxRecDepth 100000
set_option maxHeartbeats 4000000
open Go.RowKit

theorem nats_set {m i : Nat} (h : i < m) : (natsI i ++ List.replicate (m - i) 0).set i (i : Int) = natsI (i + 1) ++ List.replicate (m - (i + 1)) 0 := by
  have e1 : natsI (i + 1) = natsI i ++ [(i : Int)] := by simp [natsI, List.range_succ]
  have e2 : List.replicate (m - i) (0 : Int) = 0 :: List.replicate (m - (i + 1)) 0 := by
    rw [show m - i = (m - (i + 1)) + 1 by omega, List.replicate_succ]
  rw [e1, e2, List.set_append_right _ _ (by rw [natsI_len]; exact Nat.le_refl _), natsI_len, Nat.sub_self]
  simp
theorem laid_v (x : PD) (b : Nat) (w : World) (hx : x.At b w) (hok : x.Ok) (ht : x.t.Ok) (hes : x.es.map (·.l) = openE x.t) :
    Calls Try.prog 36 #[.pointer (some ⟨b, 0, none⟩)] w (Ret (fun g : Nat => .slice (some ⟨g, 0, none⟩) x.n x.n) (fun g => [.cells g (ic (laidL x.t))]) w) := by
  have hc := hx.c
  have hev := hx.e
  have HE := hid hok.e1
  have HN := hid (show x.n = x.t.os.length + x.t.data.toNat from rfl)
  have hn1 : 1 ≤ x.n ∧ x.n ≤ 40 := by have := hok.n1; have := hok.d1; unfold PD.n; omega
  have hp1 := hok.p1
  refine go_in Try.func36 rfl Try.ntmps36 [] [] (Mem.start _) ?_
  refine go ?_
  refine GoL.a (fun bX => ?_)
  refine go ?_
  refine GoL.as (fun bL => ?_)
  refine go ?_
  refine GoL.cv (fun w' hw => items_v x b w' (hx.old hw) hok) ?_
  refine GoL.c (fun w' hw => repeat_v (-1) x.n bL 1 w' (hw.cells pk) ⟨hn1.1, by omega⟩) (fun g => ?_)
  refine go ?_
  refine GoL.mks (k := x.t.ps.length) (f := fun x => [Value.int .i64 x]) rfl elI elI' (by omega) (fun g4 => ?_)
  refine go ?_
  refine go_loop (X := Nat) (fun i => i ≤ x.t.ps.length) (fun i => x.t.ps.length - i) (fun i => [(27, .int .i64 i)]) (fun i => [.cells g4 (ic (natsI i ++ List.replicate (x.t.ps.length - i) 0)), .cells g (ic (lyTo x.t 0)), .cells bX [.pointer (some ⟨b, 0, none⟩)]]) 0 [1, 3, 4, 26] (Nat.zero_le _) (by simp [AgreeL, At]) ?_ (fun i hi => ?_)
  · have e : lyTo x.t 0 = List.replicate x.n (-1) := rfl
    rw [e]
    simp only [natsI, List.range_zero, List.map_nil, List.nil_append, Nat.sub_zero]
    exact sb
  have hil : (natsI i ++ List.replicate (x.t.ps.length - i) 0).length = x.t.ps.length := by simp [natsI_len]; omega
  refine go ?_
  refine go_if (fun h => ?_) (fun h => ?_)
  · have hi2 : i < x.t.ps.length := by omega
    refine go ?_
    refine GoL.sa (b := g4) (l := natsI i ++ List.replicate (x.t.ps.length - i) 0) (i := i) (z := i) rp (by omega) ?_
    rw [nats_set hi2]
    refine go ?_
    exact go_again (i + 1) hi2 (by omega) (by simp [AgreeL, At]) sb
  obtain rfl : i = x.t.ps.length := by omega
  rw [Nat.sub_self, List.replicate_zero, List.append_nil]
  refine go ?_
  refine GoL.cm (fun w' hw => by
    have := sortSt_v (F := [.cells g (ic (lyTo x.t 0)), .cells bX [.pointer (some ⟨b, 0, none⟩)]]) 58 #[.pointer (some ⟨bX, 0, none⟩)] (fun a c => (lx x.t.ps c.toNat).cnt - (lx x.t.ps a.toNat).cnt) (natsI x.t.ps.length) g4 (by rw [natsI_len]; exact hp1) callLaid1 (fun a c ha hc F' w hw => by
      have h1 := natsI_mem.1 ha
      have h2 := natsI_mem.1 hc
      exact laid1_v x b bX w (hx.old hw) hok (hw.cells pk) a c h1 h2) hw
    rw [natsI_len] at this
    exact this) (fun _ => ?_)
  have hoL : (ordL x.t).length = x.t.ps.length := by rw [ordL, stS_len]; simp
  rw [show stS (fun a c => decide ((lx x.t.ps c.toNat).cnt - (lx x.t.ps a.toNat).cnt < 0)) (natsI x.t.ps.length) = ordL x.t from rfl]
  refine go ?_
  refine go_loop (X := Nat) (fun k => k ≤ x.t.ps.length) (fun k => x.t.ps.length - k) (fun k => [(40, .int .i64 k)]) (fun k => [.cells g (ic (lyTo x.t k)), .cells g4 (ic (ordL x.t)), .cells bX [.pointer (some ⟨b, 0, none⟩)]]) 0 [1, 3, 38, 39] (Nat.zero_le _) (by simp [AgreeL, At]) sb (fun k hk => ?_)
  refine go ?_
  refine go_if (fun h => ?_) (fun h => ?_)
  · have hk2 : k < x.t.ps.length := by omega
    have ho := ordL_mem hk2
    refine go ?_
    refine GoL.q ⟨_, Ex.la (b := g4) (l := ordL x.t) (i := k) (fun w hw => hw.cells pk) (by omega), ?_⟩
    generalize hz : lx (ordL x.t) k = z at ho
    have hzi : z.toNat < x.es.length := by have := HE.out; omega
    have hz2 : z < (x.es.length : Int) := by have := HE.out; omega
    have hEv := hx.q _ (lx_mem hzi)
    have EE := hid (evs_eq hes hzi)
    have hll := hok.len _ (lx_mem hzi)
    have hlk := lyTo_ok ht k (by omega)
    have hit : (x.n : Int) ≤ x.t.lines * 16 := by rw [hok.nn]; exact ht.it
    have hl1 := ht.l1
    have hiv := evsE_item ht (i := z.toNat) (by omega)
    rw [← EE.out] at hiv
    have hES : (evTo x.t.lines (lx x.es z.toNat).l (lyTo x.t k) (lx x.es z.toNat).l.length).1 = lyTo x.t (k + 1) := by rw [lyTo, hz, ← EE.out]
    have HES := hid hES
    clear hES
    refine go ?_
    generalize (lx x.es z.toNat).l = V at hEv EE hll hiv HES ⊢
    refine go_loop (X := Nat) (fun j => j ≤ V.length) (fun j => V.length - j) (fun j => [(52, .int .i64 j), (8, .int .i64 (evTo x.t.lines V (lyTo x.t k) j).2)]) (fun j => [.cells g (ic (evTo x.t.lines V (lyTo x.t k) j).1), .cells g4 (ic (ordL x.t)), .cells bX [.pointer (some ⟨b, 0, none⟩)]]) 0 [1, 3, 38, 39, 40, 50, 51] (Nat.zero_le _) (by simp [AgreeL, At, evTo]) sb (fun j hj => ?_)
    refine go ?_
    refine go_if (fun h3 => ?_) (fun h3 => ?_)
    rotate_left
    · obtain rfl : j = V.length := by omega
      rw [HES.out]
      refine go ?_
      exact go_again (k + 1) (by omega) (by omega) (by simp [AgreeL, At]) sb
    have hj2 : j < V.length := by omega
    obtain ⟨hL, hp16⟩ := evTo_ok hl1 hit hlk hiv j (by omega)
    have hv := hiv _ (lx_mem hj2)
    have hstep : evTo x.t.lines V (lyTo x.t k) (j + 1) = stepLay x.t.lines (evTo x.t.lines V (lyTo x.t k) j) (lx V j) := rfl
    have HS := hid hstep
    clear hstep
    generalize evTo x.t.lines V (lyTo x.t k) j = S at hL hp16 HS
    obtain ⟨lay, p⟩ := S
    dsimp only at hL hp16 ⊢
    have hln := hL.len
    have HLN := hid hln
    have hlx : (lx V j).item.toNat < lay.length := by have := HN.out; omega
    have hlx2 : (lx V j).item < (lay.length : Int) := by omega
    have hrg := hL.rg _ (lx_mem hlx)
    clear hln
    refine go ?_
    refine GoL.a (fun b10 => ?_)
    refine go ?_
    refine GoL.cv (fun w' hw => by
      have := free_v x b lay (some ⟨g, 0, none⟩) x.n w' (hx.old hw) hok (rdC (hw.cells pk)) (by have := HLN.out; omega) (fun a ha => by have := hL.rg a ha; omega)
      rw [HLN.out] at this
      exact this) ?_
    refine go ?_
    refine GoL.a (fun b11 => ?_)
    have hfl := freeL_len lay x.t.lines
    refine GoL.st ⟨b11, 0, _, ic (freeL lay x.t.lines), ic (freeL lay x.t.lines), 16, .agg (ic (freeL lay x.t.lines)).toArray, _, fun g => rfl, fun g => rfl, rfl, (by intro w R hR; go_simp; exact hR), (by simp [hfl]), Rep.here, setLs_all (by simp [hfl]), (fun u hu => by obtain ⟨y, _, rfl⟩ := List.mem_map.1 hu; rfl), (by simp [hfl]), ?_⟩
    refine go ?_
    refine GoL.q ⟨_, Ex.xi (b := g) (l := lay) (i := (lx V j).item.toNat) (k := x.n) (z := (lx V j).item) hlx (HLN.out.trans HN.out.symm) (by omega), ?_⟩
    refine GoL.q ⟨_, Ex.li (b := g) (l := lay) (i := (lx V j).item.toNat) hlx (fun w hw => hw.cells pk), ?_⟩
    refine go ?_
    refine go_join [(1, .pointer (some ⟨bX, 0, none⟩)), (3, .slice (some ⟨g, 0, none⟩) x.n x.n), (10, .pointer (some ⟨b10, 0, none⟩)), (38, .slice (some ⟨g4, 0, none⟩) x.t.ps.length x.t.ps.length), (39, .int .i64 x.t.ps.length), (40, .int .i64 k), (50, .slice (lx x.es z.toNat).a V.length (lx x.es z.toNat).c), (51, .int .i64 V.length), (52, .int .i64 j)]
      [.cells g (ic (stepLay x.t.lines (lay, p) (lx V j)).1), .cells b10 [.int .i64 (lx V j).item, .int .i64 (lx V j).wait], .cells g4 (ic (ordL x.t)), .cells bX [.pointer (some ⟨b, 0, none⟩)]] ?_ ?_
    · refine go_if (fun h4 => ?_) (fun h4 => ?_)
      · have hsl : (stepLay x.t.lines (lay, p) (lx V j)).1 = lay.set (lx V j).item.toNat (lx (freeL lay x.t.lines) (nextP (freeL lay x.t.lines) 16 p)) := by rw [stepLay, if_pos h4]
        have hpf := place_free hl1 hit HLN.out (i := (lx V j).item.toNat) (by have := HLN.out; omega) h4 hp16
        obtain ⟨hq1, hq2⟩ := nextP_ok 16 p hp16 hpf
        rw [hsl]
        generalize hf : freeL lay x.t.lines = f at hfl hpf hq1 hq2 ⊢
        refine go ?_
        refine go_loop (X := Nat × Nat) (fun y => y.2 < 16 ∧ nextP f y.1 y.2 = nextP f 16 p ∧ y.1 ≤ 16 ∧ ∃ j, j < y.1 ∧ 0 ≤ lx f ((y.2 + j) % 16)) (fun y => y.1) (fun y => [(8, .int .i64 y.2)]) (fun _ => [.cells b11 (ic f), .cells b10 [.int .i64 (lx V j).item, .int .i64 (lx V j).wait], .cells g (ic lay), .cells g4 (ic (ordL x.t)), .cells bX [.pointer (some ⟨b, 0, none⟩)]]) (16, p) [1, 3, 10, 11, 38, 39, 40, 50, 51, 52] ⟨hp16, rfl, Nat.le_refl _, hpf⟩ (by simp [AgreeL, At]) sb (fun y hy => ?_)
        obtain ⟨m, q⟩ := y
        dsimp only at hy ⊢
        obtain ⟨hy1, hy2, hy3, hy4⟩ := hy
        have hq' : (q : Int) < 16 := by omega
        have hqb : lx f q ∈ f := lx_mem (by omega)
        refine go ?_
        refine GoL.q ⟨_, Ex.la (b := b11) (l := f) (i := q) (fun w hw => hw.cells pk) (by omega), ?_⟩
        refine go ?_
        refine go_if (fun h5 => ?_) (fun h5 => ?_)
        · have hm0 : ∃ m', m = m' + 1 := by
            obtain ⟨j', h6, _⟩ := hy4
            exact ⟨m - 1, by omega⟩
          obtain ⟨m', rfl⟩ := hm0
          rw [nextP, if_pos h5] at hy2
          refine go ?_
          refine go_again (m', (q + 1) % 16) ⟨by simp only; omega, hy2, by simp only; omega, ?_⟩ (by simp only; omega) (by simp [AgreeL, At]) sb
          obtain ⟨j', h6, h7⟩ := hy4
          refine ⟨j' - 1, ?_, ?_⟩
          · cases j' with
            | zero => rw [Nat.add_zero, Nat.mod_eq_of_lt hy1] at h7; omega
            | succ j' => simp only; omega
          · cases j' with
            | zero => rw [Nat.add_zero, Nat.mod_eq_of_lt hy1] at h7; omega
            | succ j' => simp only; rw [show ((q + 1) % 16 + (j' + 1 - 1)) % 16 = (q + (j' + 1)) % 16 by omega]; exact h7
        · have hqe : nextP f 16 p = q := by
            rw [← hy2]
            cases m with
            | zero => rfl
            | succ m => rw [nextP, if_neg (by omega)]
          rw [hqe]
          refine go ?_
          refine D.q ⟨_, fun X F => Ex.la (b := b11) (l := f) (i := q) (fun w hw => hw.cells pk) (by omega), ?_⟩
          refine go ?_
          refine GoL.q ⟨_, Ex.xi (b := g) (l := lay) (i := (lx V j).item.toNat) (k := x.n) (z := (lx V j).item) hlx (HLN.out.trans HN.out.symm) (by omega), ?_⟩
          refine GoL.sr (b := g) (l := lay) (i := (lx V j).item.toNat) (z := lx f q) rp hlx ?_
          refine go ?_
          exact xj_n (by simp [AgreeL, At]) sb
      · have hsl : (stepLay x.t.lines (lay, p) (lx V j)).1 = lay := by rw [stepLay, if_neg (by simp only; omega)]
        rw [hsl]
        refine go ?_
        exact xj_n (by simp [AgreeL, At]) sb
    have hso := (stepLay_ok hl1 hit (s := (lay, p)) hL hp16 hv)
    generalize hT : stepLay x.t.lines (lay, p) (lx V j) = T at hso HS
    have hpl : T.2 = ((lx T.1 (lx V j).item.toNat + 1) % 16).toNat := by rw [← hT]; exact stepLay_pl hlx
    obtain ⟨lay2, p2⟩ := T
    dsimp only at hso hpl ⊢
    have hl2 := hso.1.len
    have hlx3 : (lx V j).item.toNat < lay2.length := by rw [hl2, ← HLN.out]; exact hlx
    have hrg2 := hso.1.rg _ (lx_mem hlx3)
    have h02 := hso.2.2.2
    have HL2 := hid hl2
    have HPL := hid hpl
    clear hl2 hpl hT
    refine go ?_
    refine GoL.q ⟨_, Ex.xi (b := g) (l := lay2) (i := (lx V j).item.toNat) (k := x.n) (z := (lx V j).item) hlx3 HL2.out (by omega), ?_⟩
    refine GoL.q ⟨_, Ex.li (b := g) (l := lay2) (i := (lx V j).item.toNat) hlx3 (fun w hw => hw.cells pk), ?_⟩
    refine go ?_
    have e8 : ((p2 : Nat) : Int) = (lx lay2 (lx V j).item.toNat + 1) % 16 := by have := HPL.out; omega
    rw [← e8]
    refine GoX.mem (H' := [.cells g (ic (evTo x.t.lines V (lyTo x.t k) (j + 1)).1), .cells g4 (ic (ordL x.t)), .cells bX [.pointer (some ⟨b, 0, none⟩)]]) (fun w hw => by rw [HS.out]; exact hw.sub sb) ?_
    exact go_again (j + 1) hj2 (by omega) (by simp [AgreeL, At, HS.out]) sb
  · obtain rfl : k = x.t.ps.length := by omega
    refine go ?_
    refine go_loop (X := Nat) (fun i => i ≤ x.n) (fun i => x.n - i) (fun i => [(90, .int .i64 i), (12, .int .i64 (flTo x.t i).2)]) (fun i => [.cells g (ic (flTo x.t i).1)]) 0 [3, 89] (Nat.zero_le _) (by simp [AgreeL, At, flTo]) (by simp only [flTo]; exact sb) (fun i hi => ?_)
    refine go ?_
    refine go_if (fun h3 => ?_) (fun h3 => ?_)
    rotate_left
    · obtain rfl : i = x.n := by omega
      refine go ?_
      exact end1 (fun w' hw => ⟨g, rfl, hw.done sb⟩)
    have hi2 : i < x.n := by omega
    have hF := flTo_ok ht i (by have := HN.out; omega)
    have hfl : flTo x.t (i + 1) = fillI i 100 (flTo x.t i).1 (flTo x.t i).2 := rfl
    have HFL := hid hfl
    clear hfl
    generalize flTo x.t i = S at hF HFL
    obtain ⟨lay, a⟩ := S
    dsimp only at hF HFL ⊢
    refine go ?_
    have hit : (x.n : Int) ≤ x.t.lines * 16 := by rw [hok.nn]; exact ht.it
    refine go_loop (X := Nat × List Int × Int) (fun y => fillI i y.1 y.2.1 y.2.2 = flTo x.t (i + 1) ∧ LayI x.n x.t.lines y.2.1 ∧ 0 ≤ y.2.2 ∧ (∀ q, 0 ≤ q → q < y.2.2 → q ∈ y.2.1) ∧ (lx y.2.1 i < 0 → (x.n : Int) < y.2.2 + y.1)) (fun y => y.1) (fun y => [(12, .int .i64 y.2.2)]) (fun y => [.cells g (ic y.2.1)]) (100, lay, a) [3, 13, 89, 90] ⟨HFL.out.symm, hF.1, hF.2.2.1, hF.2.2.2, fun _ => by have := hF.2.2.1; simp only; omega⟩ (by simp [AgreeL, At]) sb (fun y hy => ?_)
    clear hF HFL
    obtain ⟨m, lay, a⟩ := y
    dsimp only at hy ⊢
    obtain ⟨hf, hL, ha0, haq, ham⟩ := hy
    have HLN := hid hL.len
    have hil : i < lay.length := by rw [HLN.out]; exact hi2
    have hil2 : (i : Int) < (x.n : Int) := by omega
    have hrg := hL.rg _ (lx_mem hil)
    refine go ?_
    refine GoL.q ⟨_, Ex.la (b := g) (l := lay) (i := i) (fun w hw => hw.cells pk) hil, ?_⟩
    refine go ?_
    refine go_if (fun h4 => ?_) (fun h4 => ?_)
    rotate_left
    · have e : (lay, a) = flTo x.t (i + 1) := by
        rw [← hf]
        cases m with
        | zero => rfl
        | succ m => rw [fillI, if_neg (by omega)]
      rw [show lay = (flTo x.t (i + 1)).1 from by rw [← e], show a = (flTo x.t (i + 1)).2 from by rw [← e]]
      refine go ?_
      exact go_again (i + 1) (by omega) (by omega) (by simp [AgreeL, At]) sb
    obtain ⟨z, g1, g2, g3⟩ := some_free (lay := lay) (m := x.n) (by rw [HLN.out]; exact Nat.le_refl _) hil h4
    have haz : ¬ z < a := fun h => g3 (haq z g1 h)
    have hm2 := ham h4
    obtain ⟨m', rfl⟩ : ∃ m', m = m' + 1 := ⟨m - 1, by omega⟩
    rw [fillI, if_pos h4] at hf
    refine go ?_
    refine GoL.cv (fun w' hw => by
      have := contains_v a lay (some ⟨g, 0, none⟩) x.n w' (rdC (hw.cells pk)) (by have := HLN.out; omega)
      rw [HLN.out] at this
      exact this) ?_
    refine go ?_
    refine go_join [(3, .slice (some ⟨g, 0, none⟩) x.n x.n), (12, .int .i64 a), (13, .int .i64 i), (89, .int .i64 x.n), (90, .int .i64 i)] [.cells g (ic (if a ∈ lay then lay else lay.set i a))] ?_ ?_
    · refine go_if (fun h5 => ?_) (fun h5 => ?_)
      · rw [if_neg h5]
        refine go ?_
        refine GoL.sa (b := g) (l := lay) (i := i) (z := a) rp hil ?_
        refine go ?_
        exact xj_n (by simp [AgreeL, At]) sb
      · rw [if_pos (by simpa using h5)]
        refine go ?_
        exact xj_n (by simp [AgreeL, At]) sb
    refine go ?_
    refine go_again (m', if a ∈ lay then lay else lay.set i a, a + 1) ⟨hf, ?_, by simp only; omega, ?_, ?_⟩ (by simp only; omega) (by simp [AgreeL, At]) sb
    · simp only
      split
      · exact hL
      · rename_i h5; exact hL.set hi2 ⟨ha0, by omega⟩ h5
    · intro q q1 q2
      simp only at q2 ⊢
      split
      · rename_i h5
        by_cases e : q = a
        · rw [e]; exact h5
        · exact haq q q1 (by omega)
      · rename_i h5
        by_cases e : q = a
        · have h9 := lx_mem (l := lay.set i a) (i := i) (by simpa using hil)
          rw [lx_set hil] at h9; rw [e]; exact h9
        · have hm := haq q q1 (by omega)
          obtain ⟨j, hj, e2⟩ := List.mem_iff_getElem.1 hm
          have hji : j ≠ i := fun e3 => by
            subst e3; rw [← lx_eq hj] at e2; omega
          rw [← e2, ← lx_eq hj, ← lx_set_ne (v := a) hji]
          exact lx_mem (by simpa using hj)
    · simp only
      split
      · intro _; push_cast at hm2; omega
      · intro h; rw [lx_set hil] at h; omega
end

section
set_option linter.all false
open Go.RowKit

/-- two items exchanged -/
def exch (lay : List Int) (i k : Nat) : List Int := (lay.set i (lx lay k)).set k (lx lay i)
def rowK (i : Nat) : Nat → List (Nat × Nat)
  | 0 => []
  | j + 1 => rowK i j ++ [(i, i + 1 + j)]
def rowsTo (n : Nat) : Nat → List (Nat × Nat)
  | 0 => []
  | i + 1 => rowsTo n i ++ rowK i (n - (i + 1))
/-- what exchanges cost -/
def exC (t : TD) (lay : List Int) (ps : List (Nat × Nat)) : List Int := costL t lay :: ps.map fun p => costL t (exch lay p.1 p.2)
def goodF (t : TD) : Nat → List Int → List Int
  | 0, lay => lay
  | k + 1, lay => if leastK (exC t lay (rowsTo lay.length lay.length)) (exC t lay (rowsTo lay.length lay.length)).length = 0 then lay
    else goodF t k (exch lay (lx ((0, 0) :: rowsTo lay.length lay.length) (leastK (exC t lay (rowsTo lay.length lay.length)) (exC t lay (rowsTo lay.length lay.length)).length)).1 (lx ((0, 0) :: rowsTo lay.length lay.length) (leastK (exC t lay (rowsTo lay.length lay.length)) (exC t lay (rowsTo lay.length lay.length)).length)).2)
def goodL (t : TD) : List Int := goodF t ((costL t (laidL t)).toNat + 1) (laidL t)
theorem leastK_min (l : List Int) : ∀ k, (∀ j, j < k → lx l (leastK l k) ≤ lx l j) ∧ (∀ j, j < leastK l k → lx l (leastK l k) < lx l j)
  | 0 => ⟨fun j hj => by omega, fun j hj => by simp [leastK] at hj⟩
  | k + 1 => by
    obtain ⟨h1, h2⟩ := leastK_min l k
    simp only [leastK]
    split
    · rename_i h
      refine ⟨fun j hj => ?_, fun j hj => ?_⟩
      · by_cases e : j = k
        · rw [e]; exact Int.le_refl _
        · have := h1 j (by omega); omega
      · have := h1 j hj; omega
    · rename_i h
      refine ⟨fun j hj => ?_, h2⟩
      by_cases e : j = k
      · rw [e]; omega
      · exact h1 j (by omega)
theorem rowK_len (i : Nat) : ∀ j, (rowK i j).length = j
  | 0 => rfl
  | j + 1 => by simp [rowK, rowK_len i j]
theorem rowK_mem {i : Nat} {p : Nat × Nat} : ∀ {j}, p ∈ rowK i j ↔ p.1 = i ∧ i < p.2 ∧ p.2 < i + 1 + j
  | 0 => by simp [rowK]; omega
  | j + 1 => by
    rw [rowK, List.mem_append, rowK_mem, List.mem_singleton]
    obtain ⟨a, b⟩ := p
    simp only [Prod.mk.injEq]
    omega
theorem rowsTo_mem {n : Nat} {p : Nat × Nat} : ∀ {i}, p ∈ rowsTo n i ↔ p.1 < i ∧ p.1 < p.2 ∧ p.2 < n
  | 0 => by simp [rowsTo]
  | i + 1 => by
    rw [rowsTo, List.mem_append, rowsTo_mem, rowK_mem]
    omega
theorem rowsTo_len {n : Nat} : ∀ i, (rowsTo n i).length ≤ n * i
  | 0 => by simp [rowsTo]
  | i + 1 => by
    have := rowsTo_len (n := n) i
    rw [rowsTo, List.length_append, rowK_len, Nat.mul_succ]; omega
theorem exch_len (lay : List Int) (i k : Nat) : (exch lay i k).length = lay.length := by simp [exch]
theorem exch_lx {lay : List Int} {i k j : Nat} (hi : i < lay.length) (hk : k < lay.length) : lx (exch lay i k) j = if j = k then lx lay i else if j = i then lx lay k else lx lay j := by
  unfold exch
  by_cases e1 : j = k
  · subst e1; rw [if_pos rfl, lx_set (by simpa using hk)]
  · rw [if_neg e1, lx_set_ne e1]
    by_cases e2 : j = i
    · subst e2; rw [if_pos rfl, lx_set hi]
    · rw [if_neg e2, lx_set_ne e2]
theorem lx_ext {l m : List Int} (hl : l.length = m.length) (h : ∀ i, i < l.length → lx l i = lx m i) : l = m := by
  apply List.ext_getElem hl
  intro i h1 h2
  have := h i h1
  rwa [lx_eq h1, lx_eq h2] at this
theorem exch_back {lay : List Int} {i k : Nat} (hi : i < lay.length) (hk : k < lay.length) : exch (exch lay i k) i k = lay := by
  refine lx_ext (by rw [exch_len, exch_len]) fun j _ => ?_
  rw [exch_lx (by rw [exch_len]; exact hi) (by rw [exch_len]; exact hk), exch_lx hi hk, exch_lx hi hk, exch_lx hi hk]
  by_cases e1 : j = k
  · subst e1
    by_cases e3 : i = j
    · simp [e3]
    · simp [e3]
  · by_cases e2 : j = i
    · subst e2; simp [e1]
    · simp [e1, e2]
/-- a layout of a task -/
structure LayG (n : Nat) (lines : Int) (lay : List Int) : Prop where
  len : lay.length = n
  rg : ∀ a ∈ lay, 0 ≤ a ∧ a < lines * 16
  ds : ∀ i j, i < j → j < n → lx lay i ≠ lx lay j
theorem LayG.at {n : Nat} {lines : Int} {lay : List Int} (h : LayG n lines lay) {i : Nat} (hi : i < n) : 0 ≤ lx lay i ∧ lx lay i < lines * 16 := h.rg _ (lx_mem (by rw [h.len]; exact hi))
theorem LayG.exch {n : Nat} {lines : Int} {lay : List Int} (h : LayG n lines lay) {i k : Nat} (hi : i < n) (hk : k < n) : LayG n lines (exch lay i k) := by
  have hl := h.len
  have hne : ∀ a b, a < n → b < n → a ≠ b → lx lay a ≠ lx lay b := fun a b ha hb hab => by
    rcases Nat.lt_or_ge a b with h1 | h1
    · exact h.ds a b h1 hb
    · exact fun e => h.ds b a (by omega) ha e.symm
  refine ⟨by rw [exch_len, hl], fun a ha => ?_, fun a b hab hb => ?_⟩
  · obtain ⟨j, hj, rfl⟩ := List.mem_iff_getElem.1 ha
    have hj2 : j < n := by rw [exch_len, hl] at hj; exact hj
    rw [← lx_eq hj, exch_lx (by omega) (by omega)]
    split
    · exact h.at hi
    · split
      · exact h.at hk
      · exact h.at hj2
  · have hp : ∀ j, j < n → ∃ q, q < n ∧ q = (if j = k then i else if j = i then k else j) ∧ lx (Go.Proofs.Ytigehmghcafblaa.exch lay i k) j = lx lay q := fun j hj => by
      refine ⟨if j = k then i else if j = i then k else j, ?_, rfl, ?_⟩
      · split; exact hi; split; exact hk; exact hj
      · rw [exch_lx (by omega) (by omega)]; split; rfl; split; rfl; rfl
    obtain ⟨p, h1, h2, h3⟩ := hp a (by omega)
    obtain ⟨q, g1, g2, g3⟩ := hp b hb
    rw [h3, g3]
    refine hne p q h1 g1 ?_
    rw [h2, g2]
    split <;> split <;> (try split) <;> (try split) <;> omega
theorem laid_good {t : TD} (ht : t.Ok) : LayG (t.os.length + t.data.toNat) t.lines (laidL t) := by
  obtain ⟨h1, h2⟩ := laidL_ok ht
  exact ⟨h1.len, h2, fun i j hij hj => h1.ds i j hij hj (h2 _ (lx_mem (by rw [h1.len]; omega))).1⟩
theorem exC_len (t : TD) (lay : List Int) (ps : List (Nat × Nat)) : (exC t lay ps).length = ps.length + 1 := by simp [exC]
theorem exC_at {t : TD} {lay : List Int} {ps : List (Nat × Nat)} {j : Nat} (hj : j < ps.length) : lx (exC t lay ps) (j + 1) = costL t (exch lay (lx ps j).1 (lx ps j).2) := by
  have : lx (exC t lay ps) (j + 1) = lx (ps.map fun p => costL t (exch lay p.1 p.2)) j := by simp [exC, lx]
  rw [this, lx_map hj]
/-- one step of Good makes the layout better -/
theorem good_step {t : TD} {n : Nat} {lay : List Int} (h : LayG n t.lines lay) (ha : ¬ leastK (exC t lay (rowsTo lay.length lay.length)) (exC t lay (rowsTo lay.length lay.length)).length = 0) :
    let a := leastK (exC t lay (rowsTo lay.length lay.length)) (exC t lay (rowsTo lay.length lay.length)).length
    let p := lx ((0, 0) :: rowsTo lay.length lay.length) a
    a < (exC t lay (rowsTo lay.length lay.length)).length ∧ p.1 < p.2 ∧ p.2 < n ∧ lx (exC t lay (rowsTo lay.length lay.length)) a = costL t (exch lay p.1 p.2) ∧ costL t (exch lay p.1 p.2) < costL t lay := by
  intro a p
  have h0 : 0 < (exC t lay (rowsTo lay.length lay.length)).length := by rw [exC_len]; omega
  have h1 : a < (exC t lay (rowsTo lay.length lay.length)).length := leastK_lt _ h0
  have h1' := h1
  rw [exC_len] at h1'
  obtain ⟨j, hj⟩ : ∃ j, a = j + 1 := ⟨a - 1, by have : ¬ a = 0 := ha; omega⟩
  have hjl : j < (rowsTo lay.length lay.length).length := by omega
  have hp : p = lx (rowsTo lay.length lay.length) j := by show lx ((0, 0) :: rowsTo lay.length lay.length) a = _; rw [hj]; simp [lx]
  have hm := rowsTo_mem.1 (lx_mem hjl)
  have hc : lx (exC t lay (rowsTo lay.length lay.length)) a = costL t (exch lay p.1 p.2) := by rw [hj, exC_at hjl, hp]
  have hlt := (leastK_min (exC t lay (rowsTo lay.length lay.length)) (exC t lay (rowsTo lay.length lay.length)).length).2 0 (by have : ¬ a = 0 := ha; show 0 < a; omega)
  have hz : lx (exC t lay (rowsTo lay.length lay.length)) 0 = costL t lay := by simp [exC, lx]
  rw [hz] at hlt
  have hlt' : lx (exC t lay (rowsTo lay.length lay.length)) a < costL t lay := hlt
  rw [hc] at hlt'
  rw [hp] at hlt' hc ⊢
  exact ⟨h1, hm.2.1, by rw [← h.len]; exact hm.2.2, hc, hlt'⟩
end

section
set_option linter.all false
set_option pp.maxSteps 100000
set_option maxRecDepth 100000
set_option maxHeartbeats 4000000
open Go.RowKit

@[simp] def swC (p : Nat × Nat) : List Value := [.int .i64 p.1, .int .i64 p.2]
theorem swC_one (p : Nat × Nat) : ∀ u ∈ swC p, u.oneCell' = true := by intro u hu; simp at hu; rcases hu with rfl | rfl <;> rfl
theorem elW : ElemT Try.prog 85 84 2 16 := ElemT.mk' (z := .agg #[.int .i64 0, .int .i64 0]) Try.underlying85 (by kernel_rfl) rfl
def swO (n i : Nat) : List (Nat × Nat) := (0, 0) :: rowsTo n i
def swT (n i j : Nat) : List (Nat × Nat) := (0, 0) :: (rowsTo n i ++ rowK i j)
theorem swT_0 (n i : Nat) : swT n i 0 = swO n i := by simp [swT, swO, rowK]
theorem swT_len (n i j : Nat) : (swT n i j).length = (rowsTo n i ++ rowK i j).length + 1 := by simp [swT]
theorem rowsTo_len2 {n : Nat} : ∀ i, i ≤ n → 2 * (rowsTo n i).length + i * (i + 1) ≤ 2 * (n * i)
  | 0, _ => by simp [rowsTo]
  | i + 1, h => by
    have := rowsTo_len2 i (by omega : i ≤ n)
    rw [rowsTo, List.length_append, rowK_len, Nat.mul_succ n i]
    have e : (i + 1) * (i + 1 + 1) = i * (i + 1) + 2 * (i + 1) := by rw [← Nat.add_mul, Nat.mul_comm]
    omega
theorem rowsTo_len3 {n : Nat} (hn : n ≤ 40) : (rowsTo n n).length ≤ 780 := by
  have h1 := rowsTo_len2 (n := n) n (Nat.le_refl _)
  obtain ⟨q, hq⟩ : ∃ q, q = n * n := ⟨_, rfl⟩
  have h2 : n * (n + 1) = q + n := by rw [Nat.mul_succ, hq]
  rw [h2, ← hq] at h1
  have h3 : ∀ m ≤ 40, m * m - m ≤ 1560 := by decide
  have h4 := h3 n hn
  rw [← hq] at h4
  omega
theorem Good_bad (t : TD) (p i e : Int) (w : World) (hn : t.Len) (hT : t.At w) (hr : chkL t = (p, i, e)) (he : ¬ e = 0) :
    Calls Try.prog 17 #[.agg #[.slice t.ao t.os.length t.co, .int .i64 t.data, .int .i64 t.lines, .slice t.ap t.ps.length t.cp]] w (fun e' w' => e' = .returned (.tuple #[.slice none 0 0, .int .i64 e]) ∧ Below w.heap.size w w') := by
  refine go_in Try.func17 rfl Try.ntmps17 [] [] (Mem.start _) ?_
  refine go ?_
  refine GoL.a (fun b1 => ?_)
  refine go ?_
  refine GoL.cv (fun w' hw => open_bad t p i e w' hn (hT.old hw) hr he) ?_
  refine go ?_
  refine go_if (fun h => ?_) (fun h => ?_)
  rotate_left
  · exact absurd h he
  refine go ?_
  exact ev2 ⟨rfl, rfl⟩
theorem Good_ok (t : TD) (p i : Int) (w : World) (hn : t.Len) (hT : t.At w) (hr : chkL t = (p, i, 0)) :
    Calls Try.prog 17 #[.agg #[.slice t.ao t.os.length t.co, .int .i64 t.data, .int .i64 t.lines, .slice t.ap t.ps.length t.cp]] w (Ret (fun g : Nat => .tuple #[.slice (some ⟨g, 0, none⟩) (t.os.length + t.data.toNat) (t.os.length + t.data.toNat), .int .i64 0]) (fun g => [.cells g (ic (goodL t))]) w) := by
  have htok := chkL_ok hr
  refine go_in Try.func17 rfl Try.ntmps17 [] [] (Mem.start _) ?_
  refine go ?_
  refine GoL.a (fun b1 => ?_)
  refine go ?_
  refine GoL.c (fun w' hw => open_ok t p i w' hn (hT.old hw) hr) (fun x => ?_)
  obtain ⟨x, b⟩ := x
  refine GoL.pure (fun hx => ?_)
  dsimp only at hx ⊢
  obtain ⟨rfl, hes, hcap⟩ := hx
  have hok := plan_ok htok hes hcap
  have hn1 : 1 ≤ x.n ∧ x.n ≤ 40 := by have := hok.n1; have := hok.d1; unfold PD.n; omega
  have hl1 := htok.l1
  have hG0 : LayG x.n x.t.lines (laidL x.t) := laid_good htok
  have hcost : ∀ lay, LayG x.n x.t.lines lay → ∀ g w', Mem w [] g w' → x.At b w' → ∀ al, Rd icell 1 w' al lay → Calls Try.prog 21 #[.pointer (some ⟨b, 0, none⟩), .slice al x.n x.n] w' (fun e w'' => e = .returned (.int .i64 (costL x.t lay)) ∧ Below w'.heap.size w' w'') := fun lay hG g w' _ hA al hR => by
    have := cost_v x b lay al x.n w' hA hok hR hG.len (fun a ha => by have := hG.rg a ha; omega)
    rw [hG.len, cost_eq hes] at this
    exact this
  have hcb : ∀ lay, LayG x.n x.t.lines lay → 0 ≤ costL x.t lay := fun lay hG => by
    rw [← cost_eq hes]
    exact (costT_bd (cnt := fun i => (lx x.t.ps i).cnt) (es := fun i => (lx x.es i).l) (lay := lay) (m := x.es.length) (fun i hi => hok.cnt _ (lx_mem (by have := hok.e1; omega))) (fun i hi => pathT_bd (fun v hv => (hok.item _ (lx_mem hi) v hv).2.2) ⟨(hok.len _ (lx_mem hi)).1, (hok.len _ (lx_mem hi)).2.1⟩) x.es.length (Nat.le_refl _)).1
  rw [show x.t.os.length + x.t.data.toNat = x.n from rfl]
  refine go ?_
  refine GoL.c (fun w' hw => laid_v x b w' (hw.plan pk (hT.old hw)) hok htok hes) (fun g => ?_)
  refine go ?_
  refine GoL.cv (fun w' hw => hcost _ hG0 _ w' hw (hw.plan pk (hT.old hw)) _ (rdC (hw.cells pk))) ?_
  refine go ?_
  refine go_loop (X := Nat × List Int) (fun y => goodF x.t y.1 y.2 = goodL x.t ∧ LayG x.n x.t.lines y.2 ∧ costL x.t y.2 < y.1) (fun y => y.1) (fun y => [(7, .int .i64 (costL x.t y.2))]) (fun y => [.cells g (ic y.2), .plan x b]) ((costL x.t (laidL x.t)).toNat + 1, laidL x.t) [4, 6] ⟨rfl, hG0, by simp only; omega⟩ (by simp [AgreeL, At]) sb (fun y hy => ?_)
  obtain ⟨m, lay⟩ := y
  dsimp only at hy ⊢
  obtain ⟨hm, hG, hmc⟩ := hy
  have hnow := hcb lay hG
  obtain ⟨m', rfl⟩ : ∃ m', m = m' + 1 := ⟨m - 1, by omega⟩
  have HLN := hid hG.len
  refine go ?_
  refine GoL.sl (Ef.lit (f := swC) (m := 2) (e := 84) [((0 : Nat), (0 : Nat))] (fun _ => rfl) rfl) (fun a8 c8 => ?_)
  refine go ?_
  refine GoL.sl (Ef.lit (f := icell) (m := 1) (e := 3) [costL x.t lay] (fun _ => rfl) rfl) (fun a9 c9 => ?_)
  refine go ?_
  refine go_loop (X := Nat × (Option Addr × Nat) × (Option Addr × Nat)) (fun y => y.1 ≤ x.n) (fun y => x.n - y.1) (fun y => [(34, .int .i64 y.1), (8, .slice y.2.1.1 (swO x.n y.1).length y.2.1.2), (9, .slice y.2.2.1 (exC x.t lay (rowsTo x.n y.1)).length y.2.2.2)])
    (fun y => [.cells g (ic lay), .plan x b, .own swC 2 84 (.slice y.2.1.1 (swO x.n y.1).length y.2.1.2) (swO x.n y.1), .own icell 1 3 (.slice y.2.2.1 (exC x.t lay (rowsTo x.n y.1)).length y.2.2.2) (exC x.t lay (rowsTo x.n y.1))]) (0, (a8, c8), (a9, c9)) [4, 6, 7, 33] (Nat.zero_le _) (by simp [AgreeL, At, rowsTo, exC, swO]) sb (fun y hy => ?_)
  obtain ⟨i, ⟨a8, c8⟩, a9, c9⟩ := y
  dsimp only at hy ⊢
  have hrl := rowsTo_len (n := x.n) i
  have hrl2 : x.n * i ≤ 1600 := by
    have := Nat.mul_le_mul hn1.2 (show i ≤ 40 by omega)
    omega
  refine go ?_
  refine go_if (fun h => ?_) (fun h => ?_)
  · have hi2 : i < x.n := by omega
    refine go ?_
    refine go_loop (X := Nat × (Option Addr × Nat) × (Option Addr × Nat)) (fun y => i + 1 + y.1 ≤ x.n) (fun y => x.n - y.1) (fun y => [(11, .int .i64 ((i : Int) + 1 + y.1)), (8, .slice y.2.1.1 (swT x.n i y.1).length y.2.1.2), (9, .slice y.2.2.1 (exC x.t lay (rowsTo x.n i ++ rowK i y.1)).length y.2.2.2)])
      (fun y => [.cells g (ic lay), .plan x b, .own swC 2 84 (.slice y.2.1.1 (swT x.n i y.1).length y.2.1.2) (swT x.n i y.1), .own icell 1 3 (.slice y.2.2.1 (exC x.t lay (rowsTo x.n i ++ rowK i y.1)).length y.2.2.2) (exC x.t lay (rowsTo x.n i ++ rowK i y.1))]) (0, (a8, c8), (a9, c9)) [4, 6, 7, 10, 33, 34] (by simp only; omega) (by simp [AgreeL, At, rowK, swT_0]) (by simp only [rowK, List.append_nil, swT_0]; exact sb) (fun y hy => ?_)
    obtain ⟨j, ⟨a8, c8⟩, a9, c9⟩ := y
    dsimp only at hy ⊢
    have hrk := hid (rowK_len i j)
    refine go ?_
    refine go_if (fun h3 => ?_) (fun h3 => ?_)
    rotate_left
    · obtain rfl : j = x.n - (i + 1) := by omega
      refine go ?_
      rw [show rowsTo x.n i ++ rowK i (x.n - (i + 1)) = rowsTo x.n (i + 1) from rfl, show swT x.n i (x.n - (i + 1)) = swO x.n (i + 1) from rfl]
      exact go_again (i + 1, (a8, c8), (a9, c9)) (by simp only; omega) (by simp only; omega) (by simp [AgreeL, At]) sb
    have hk2 : i + 1 + j < x.n := by omega
    have hkl : i + 1 + j < lay.length := by rw [HLN.out]; exact hk2
    have hil : i < lay.length := by rw [HLN.out]; exact hi2
    have hii : (i : Int) < (x.n : Int) := by omega
    have hki : (i : Int) + 1 + j < (x.n : Int) := by omega
    refine go_skip ?_
    refine xt_n ?_
    refine go_seq ?_
    refine go_blk ?_
    refine go_seq ?_
    refine go_drw [.cells g (ic lay)] [.plan x b, .own swC 2 84 (.slice a8 (swT x.n i j).length c8) (swT x.n i j), .own icell 1 3 (.slice a9 (exC x.t lay (rowsTo x.n i ++ rowK i j)).length c9) (exC x.t lay (rowsTo x.n i ++ rowK i j))] ?_
    refine go ?_
    refine D.qu [16] ⟨_, fun X F => Ex.la (b := g) (l := lay) (i := i + 1 + j) (fun w hw => hw.cells .here) (by omega), ?_⟩
    refine go ?_
    refine D.qu [16] ⟨_, fun X F => Ex.la (b := g) (l := lay) (i := i) (fun w hw => hw.cells .here) (by omega), ?_⟩
    refine go ?_
    refine D.s (A := fun _ _ => .cells g (ic ((lay).set i (lx (lay) (i + 1 + j))))) [] [] [16] (fun X F => Ef.sa .here (by omega)) ?_
    refine D.nil [(13, fun _ => .cells g (ic ((lay).set i (lx (lay) (i + 1 + j)))))] (fun X => ?_) (hchk := (by show chkDD _ _ 1 [13] = true; decide +kernel))
    refine go ?_
    refine GoL.sa (b := g) (l := (lay).set i (lx (lay) (i + 1 + j))) (i := i + 1 + j) (z := lx (lay) i) .here (by rw [List.length_set]; omega) ?_
    rw [show ((lay).set i (lx (lay) (i + 1 + j))).set (i + 1 + j) (lx (lay) i) = exch lay i (i + 1 + j) from rfl]
    have hGe := hG.exch hi2 hk2
    have he7 : (rowsTo x.n i ++ rowK i j).length ≤ 1999 := by rw [List.length_append, hrk.out]; omega
    have he8 : (swT x.n i j).length ≤ 2000 := by rw [swT_len]; omega
    have he9 : (exC x.t lay (rowsTo x.n i ++ rowK i j)).length ≤ 2000 := by rw [exC_len]; omega
    have hel : i + 1 + j < (exch lay i (i + 1 + j)).length := by rw [exch_len]; exact hkl
    have hel2 : i < (exch lay i (i + 1 + j)).length := by rw [exch_len]; exact hil
    refine go ?_
    refine GoL.sl (Ef.lit (f := swC) (m := 2) (e := 84) [(i, i + 1 + j)] (fun _ => rfl) rfl) (fun a5 c5 => ?_)
    refine go ?_
    refine GoL.sl (Ef.app (f := swC) (l := swT x.n i j) (l2 := [(i, i + 1 + j)]) (v := .slice a8 (swT x.n i j).length c8) elW (fun _ => rfl) swC_one (by simp only [List.length_cons, List.length_nil]; omega) pk (fun w hw => hw.ownRd (l := [(i, i + 1 + j)]) pk)) (fun a6 c6 => ?_)
    refine go ?_
    refine GoL.cv (fun w' hw => hcost _ hGe _ w' hw (hw.plan pk (hT.old hw)) _ (rdC (hw.cells pk))) ?_
    refine go ?_
    refine GoL.sl (Ef.lit (f := icell) (m := 1) (e := 3) [costL x.t (exch lay i (i + 1 + j))] (fun _ => rfl) rfl) (fun a10 c10 => ?_)
    refine go ?_
    refine GoL.sl (Ef.app (f := icell) (l := exC x.t lay (rowsTo x.n i ++ rowK i j)) (l2 := [costL x.t (exch lay i (i + 1 + j))]) (v := .slice a9 (exC x.t lay (rowsTo x.n i ++ rowK i j)).length c9) elI (fun _ => rfl) icell_one (by simp only [List.length_cons, List.length_nil]; omega) pk (fun w hw => hw.ownRd (l := [costL x.t (exch lay i (i + 1 + j))]) pk)) (fun a7 c7 => ?_)
    rw [show swT x.n i j ++ [(i, i + 1 + j)] = swT x.n i (j + 1) by simp [rowK, swT], show exC x.t lay (rowsTo x.n i ++ rowK i j) ++ [costL x.t (exch lay i (i + 1 + j))] = exC x.t lay (rowsTo x.n i ++ rowK i (j + 1)) by simp [exC, rowK]]
    refine GoL.q ⟨_, Ex.q, ?_⟩
    refine GoL.q ⟨_, Ex.q, ?_⟩
    refine go_nil ?_
    refine xt_n ?_
    refine go_sub (K := [.cells g (ic (exch lay i (i + 1 + j))), .plan x b, .own swC 2 84 (.slice a6 (swT x.n i (j + 1)).length c6) (swT x.n i (j + 1)), .own icell 1 3 (.slice a7 (exC x.t lay (rowsTo x.n i ++ rowK i (j + 1))).length c7) (exC x.t lay (rowsTo x.n i ++ rowK i (j + 1)))]) ?_ sb
    refine go_drw [.cells g (ic (exch lay i (i + 1 + j)))] [.plan x b, .own swC 2 84 (.slice a6 (swT x.n i (j + 1)).length c6) (swT x.n i (j + 1)), .own icell 1 3 (.slice a7 (exC x.t lay (rowsTo x.n i ++ rowK i (j + 1))).length c7) (exC x.t lay (rowsTo x.n i ++ rowK i (j + 1)))] ?_
    refine go ?_
    refine D.qu [16] ⟨_, fun X F => Ex.la (b := g) (l := exch lay i (i + 1 + j)) (i := i + 1 + j) (fun w hw => hw.cells .here) hel, ?_⟩
    refine go ?_
    refine D.qu [16] ⟨_, fun X F => Ex.la (b := g) (l := exch lay i (i + 1 + j)) (i := i) (fun w hw => hw.cells .here) hel2, ?_⟩
    refine go ?_
    refine D.s (A := fun _ _ => .cells g (ic ((exch lay i (i + 1 + j)).set i (lx (exch lay i (i + 1 + j)) (i + 1 + j))))) [] [] [16] (fun X F => Ef.sa .here hel2) ?_
    refine D.nil [(13, fun _ => .cells g (ic ((exch lay i (i + 1 + j)).set i (lx (exch lay i (i + 1 + j)) (i + 1 + j)))))] (fun X => ?_) (hchk := (by show chkDD _ _ 1 [13] = true; decide +kernel))
    refine go ?_
    refine GoL.sa (b := g) (l := (exch lay i (i + 1 + j)).set i (lx (exch lay i (i + 1 + j)) (i + 1 + j))) (i := i + 1 + j) (z := lx (exch lay i (i + 1 + j)) i) .here (by rw [List.length_set]; exact hel) ?_
    rw [show ((exch lay i (i + 1 + j)).set i (lx (exch lay i (i + 1 + j)) (i + 1 + j))).set (i + 1 + j) (lx (exch lay i (i + 1 + j)) i) = lay from exch_back hil hkl]
    refine go ?_
    exact go_again (j + 1, (a6, c6), (a7, c7)) (by simp only; omega) (by simp only; omega) (by simp [AgreeL, At]; omega) sb
  · obtain rfl : i = x.n := by omega
    have hl3 := hid (rowsTo_len3 hn1.2)
    refine go ?_
    refine GoL.cv (fun w' hw => least_v _ a9 c9 w' (hw.ownRd pk) (by rw [exC_len]; have := hl3.out; omega)) ?_
    have hst := good_step hG
    rw [goodF, HLN.out] at hm
    rw [HLN.out] at hst
    have hEL := hid (exC_len x.t lay (rowsTo x.n x.n))
    obtain ⟨K, hK⟩ : ∃ K, K = leastK (exC x.t lay (rowsTo x.n x.n)) (exC x.t lay (rowsTo x.n x.n)).length := ⟨_, rfl⟩
    rw [← hK] at hm hst ⊢
    clear hK
    refine go ?_
    refine go_if (fun h4 => ?_) (fun h4 => ?_)
    · have hK0 : K = 0 := by omega
      rw [if_pos hK0] at hm
      refine go ?_
      exact end2 (fun w' hw => ⟨g, rfl, by rw [← hm]; exact hw.done sb⟩)
    have hK0 : ¬ K = 0 := by omega
    rw [if_neg hK0] at hm
    obtain ⟨f1, f2, f3, f4, f5⟩ := hst hK0
    obtain ⟨S, hS⟩ : ∃ S, S = swO x.n x.n := ⟨_, rfl⟩
    rw [show (0, 0) :: rowsTo x.n x.n = S from hS.symm] at hm f2 f3 f4 f5
    rw [← hS]
    have hSl : S.length = (rowsTo x.n x.n).length + 1 := by rw [hS]; rfl
    have hKS : K < S.length := by rw [hSl, ← hEL.out]; exact f1
    clear hS hSl
    refine go ?_
    refine D.q ⟨_, fun X F => Ex.ix (l := S) (f := swC) (m := 2) (i := K) (hi := Int.toNat_natCast K) (hc := fun w hw => hw.ownRd pk), ?_⟩
    refine D.q ⟨_, fun X F => Ex.fr0, ?_⟩
    refine D.q ⟨_, fun X F => Ex.rl (l := S) (f := swC) (hc := fun w hw => hw.ownRd pk), ?_⟩
    refine go ?_
    refine D.q ⟨_, fun X F => Ex.ix (l := S) (f := swC) (m := 2) (i := K) (hi := Int.toNat_natCast K) (hc := fun w hw => hw.ownRd pk), ?_⟩
    refine D.q ⟨_, fun X F => Ex.fr, ?_⟩
    refine D.q ⟨_, fun X F => Ex.rl (l := S) (f := swC) (hc := fun w hw => hw.ownRd pk), ?_⟩
    refine D.q ⟨_, fun X F => Ex.q, ?_⟩
    refine D.nil0 ⟨_, by intro X; rfl, ⟨by kernel_rfl, by kernel_rfl⟩, by decide +kernel, ?_⟩
    refine GoL.q ⟨_, Ex.q, ?_⟩
    refine go_nil ?_
    refine xt_n ?_
    have g1 : (lx S K).1 < lay.length := by rw [HLN.out]; omega
    have g2 : (lx S K).2 < lay.length := by rw [HLN.out]; omega
    have g3 : ((lx S K).1 : Int) < (x.n : Int) := by omega
    have g4 : ((lx S K).2 : Int) < (x.n : Int) := by omega
    have f4' := hid f4
    have hm' := hid hm
    clear f4 hm
    refine go_drw [.cells g (ic lay)] [.plan x b, .own swC 2 84 (.slice a8 S.length c8) S, .own icell 1 3 (.slice a9 (exC x.t lay (rowsTo x.n x.n)).length c9) (exC x.t lay (rowsTo x.n x.n))] ?_
    refine go ?_
    refine D.qu [21] ⟨_, fun X F => Ex.la (b := g) (l := lay) (i := (lx S K).2) (fun w hw => hw.cells .here) g2, ?_⟩
    refine go ?_
    refine D.qu [21] ⟨_, fun X F => Ex.la (b := g) (l := lay) (i := (lx S K).1) (fun w hw => hw.cells .here) g1, ?_⟩
    refine go ?_
    refine D.q ⟨_, fun X F => Ex.ix (l := exC x.t lay (rowsTo x.n x.n)) (f := icell) (m := 1) (i := K) (hi := Int.toNat_natCast K) (hc := fun w hw => hw.ownRd pk), ?_⟩
    refine D.q ⟨_, fun X F => Ex.rl (l := exC x.t lay (rowsTo x.n x.n)) (f := icell) (hc := fun w hw => hw.ownRd pk), ?_⟩
    refine go ?_
    refine D.s (A := fun _ _ => .cells g (ic (lay.set (lx S K).1 (lx lay (lx S K).2)))) [] [] [21] (fun X F => Ef.sa .here g1) ?_
    refine D.nil [(17, fun _ => .cells g (ic (lay.set (lx S K).1 (lx lay (lx S K).2))))] (fun X => ?_) (hchk := (by show chkDD _ _ 1 [17] = true; decide +kernel))
    refine go ?_
    refine GoL.sa (b := g) (l := lay.set (lx S K).1 (lx lay (lx S K).2)) (i := (lx S K).2) (z := lx lay (lx S K).1) .here (by rw [List.length_set]; exact g2) ?_
    rw [show (lay.set (lx S K).1 (lx lay (lx S K).2)).set (lx S K).2 (lx lay (lx S K).1) = exch lay (lx S K).1 (lx S K).2 from rfl, f4'.out]
    refine go ?_
    exact go_again (m', exch lay (lx S K).1 (lx S K).2) ⟨hm'.out, hG.exch (by omega) (by omega), by simp only; omega⟩ (by simp only; omega) (by simp [AgreeL, At]) sb
end

section
set_option linter.all false
set_option pp.maxSteps 100000
set_option maxRecDepth 100000
set_option maxHeartbeats 4000000
open Go.RowKit

theorem outO1_v (b : Nat) (hi n : Int) (w : World) (hc : Cells w b [.int .i64 hi]) : Calls Try.prog 96 #[.int .i64 n, .pointer (some ⟨b, 0, none⟩)] w (fun e w' => e = .returned (.bool (decide (outP n 0 hi))) ∧ Below w.heap.size w w') := by
  refine go_in Try.func96 rfl Try.ntmps96 [] [] (Mem.start _) ?_
  refine go ?_
  refine GoL.sp (fun h => ?_) (fun h => ?_) <;> refine go ?_ <;> refine ev1 ?_
  · simp [outP, h]
  · simp [outP, Int.not_lt.2 h]
theorem callOut (args : Array Value) (w : World) : (callFunc 96 args).run Try.prog w = .ok (.enter 96 args) w := by go_simp
theorem outO_v (hi : Int) (l : List Int) (a : Option Addr) (c : Nat) (w : World) (hl : Rd icell 1 w a l) (hn : l.length ≤ 9223372036854775807) : Calls Try.prog 86 #[.int .i64 hi, .slice a l.length c] w (fun e w' => e = .returned (.bool (l.any fun n => decide (outP n 0 hi))) ∧ Below w.heap.size w w') := by
  refine go_in Try.func86 rfl Try.ntmps86 [] [] (Mem.start _) ?_
  refine go ?_
  refine GoL.a (fun b2 => ?_)
  refine go ?_
  refine GoL.cv (fun w' hw => containsFunc_v 96 _ (fun n => decide (outP n 0 hi)) l _ _ w' (hw.old hl) hn callOut (fun x hx w2 hb => outO1_v b2 hi x w2 ((hw.cells (b := b2) (l := [.int .i64 hi]) pk).at hb))) ?_
  refine go ?_
  exact ev1 rfl
theorem pack_v (a x : Int) (ha : 0 ≤ a ∧ a ≤ 1000000000) (hx : 0 ≤ x ∧ x ≤ 127) (w : World) : Calls Try.prog 71 #[.int .i64 a, .int .i64 x] w (fun e w' => e = .returned (.int .i64 (a * 128 + x)) ∧ Below w.heap.size w w') := by
  refine go_in Try.func71 rfl Try.ntmps71 [] [] (Mem.start _) ?_
  refine go ?_
  refine ev1 ?_
  refine congrArg _ ?_
  exact bits_join .i64 62 (by decide) (fun n h0 h1 => IntWalk.i64_in _ (by omega)) 7 (a * 128) x (by omega) (by omega) (by omega) hx.1 (by omega) (by omega)
/-- the word of an order -/
def encI (op fr tt nx : Int) : Int := ((op * 128 + fr) * 128 + tt) * 128 + nx
theorem strange_v (op fr tt nx : Int) (h : (0 ≤ op ∧ op ≤ 7) ∧ (0 ≤ fr ∧ fr ≤ 127) ∧ (0 ≤ tt ∧ tt ≤ 127) ∧ 0 ≤ nx ∧ nx ≤ 127) (w : World) : Calls Try.prog 70 #[.agg #[.int .i64 op, .int .i64 fr, .int .i64 tt, .int .i64 nx]] w (fun e w' => e = .returned (.bool false) ∧ Below w.heap.size w w') := by
  refine go_in Try.func70 rfl Try.ntmps70 [] [] (Mem.start _) ?_
  refine go ?_
  refine GoL.a (fun b1 => ?_)
  refine go ?_
  refine GoL.sl (Ef.lit (f := icell) (m := 1) (e := 3) [op] (fun _ => rfl) rfl) (fun a5 c5 => ?_)
  refine go ?_
  refine GoL.cv (v := .bool false) (fun w' hw => (outO_v 7 [op] a5 c5 w' (hw.ownRd pk) (by simp)).mono fun e w2 ⟨h1, h2⟩ => ⟨by rw [h1]; simp [outP, Int.not_lt.2 h.1.1, Int.not_lt.2 h.1.2], h2⟩) ?_
  refine go ?_
  refine GoL.sl (Ef.lit (f := icell) (m := 1) (e := 3) [fr, tt, nx] (fun _ => rfl) rfl) (fun a6 c6 => ?_)
  refine go ?_
  refine GoL.cv (v := .bool false) (fun w' hw => (outO_v 127 [fr, tt, nx] a6 c6 w' (hw.ownRd pk) (by simp)).mono fun e w2 ⟨h1, h2⟩ => ⟨by rw [h1]; simp [outP, Int.not_lt.2 h.2.1.1, Int.not_lt.2 h.2.1.2, Int.not_lt.2 h.2.2.1.1, Int.not_lt.2 h.2.2.1.2, Int.not_lt.2 h.2.2.2.1, Int.not_lt.2 h.2.2.2.2], h2⟩) ?_
  refine go ?_
  exact ev1 rfl
theorem Encode_v (op fr tt nx : Int) (h : (0 ≤ op ∧ op ≤ 7) ∧ (0 ≤ fr ∧ fr ≤ 127) ∧ (0 ≤ tt ∧ tt ≤ 127) ∧ 0 ≤ nx ∧ nx ≤ 127) (w : World) : Calls Try.prog 55 #[.agg #[.int .i64 op, .int .i64 fr, .int .i64 tt, .int .i64 nx]] w (fun e w' => e = .returned (.tuple #[.int .i64 (encI op fr tt nx), .int .i64 0]) ∧ Below w.heap.size w w') := by
  refine go_in Try.func55 rfl Try.ntmps55 [] [] (Mem.start _) ?_
  refine go ?_
  refine GoL.a (fun b1 => ?_)
  refine go ?_
  refine GoL.cv (fun w' hw => strange_v op fr tt nx h w') ?_
  refine go ?_
  refine D.cv (fun F w' hw => pack_v op fr (by omega) (by omega) w') ?_
  refine go ?_
  refine D.cv (fun F w' hw => pack_v (op * 128 + fr) tt (by omega) (by omega) w') ?_
  refine go ?_
  refine GoL.cv (fun w' hw => pack_v ((op * 128 + fr) * 128 + tt) nx (by omega) (by omega) w') ?_
  refine go ?_
  exact ev2 ⟨rfl, rfl⟩
theorem LayS_v (n : Int) (w : World) : Calls Try.prog 53 #[.int .i64 n] w (fun e w' => e = .returned (.bool (decide (outP n 0 16777215))) ∧ Below w.heap.size w w') := by
  refine go_in Try.func53 rfl Try.ntmps53 [] [] (Mem.start _) ?_
  refine go ?_
  refine GoL.cv (fun w' hw => out_v _ _ _ w') ?_
  refine go ?_
  exact ev1 rfl
end

section
set_option linter.all false
set_option pp.maxSteps 100000
set_option maxRecDepth 100000
set_option maxHeartbeats 4000000
open Go.RowKit

theorem indexFunc0_v (f : FuncId) (p : Int → Bool) (l : List Int) (a : Option Addr) (c : Nat) (w : World) (hl : Rd icell 1 w a l) (hn : l.length ≤ 9223372036854775807) (eg : ∀ args w, (callFunc f args).run Try.prog w = .ok (.enter f args) w)
    (hf : ∀ x ∈ l, ∀ w', Below w.heap.size w w' → Calls Try.prog f #[.int .i64 x] w' (fun e w'' => e = .returned (.bool (p x)) ∧ Below w'.heap.size w' w'')) :
    Calls Try.prog 66 #[.slice a l.length c, .func (.func f) #[] #[]] w (fun e w' => ∃ i : Int, e = .returned (.int .i64 i) ∧ Below w.heap.size w w' ∧ (0 ≤ i ↔ l.any p = true)) := by
  refine go_in Try.func66 rfl Try.ntmps66 [] [] (Mem.start _) ?_
  refine go ?_
  refine go_loop (X := Nat) (fun i => i ≤ l.length ∧ ∀ j, j < i → p (lx l j) = false) (fun i => l.length - i) (fun i => [(8, .int .i64 i)]) (fun _ => []) 0 [0, 1, 7] ⟨Nat.zero_le _, fun j hj => by omega⟩ ⟨fun g => rfl, trivial⟩ sb (fun i hi => ?_)
  refine go ?_
  refine go_if (fun h => ?_) (fun h => ?_)
  · refine go ?_
    refine GoL.cv (fun w' hw => hf _ (lx_mem (by omega)) w' hw.below) ?_
    refine go ?_
    refine go_if (fun h2 => ?_) (fun h2 => ?_)
    · refine go ?_
      refine end1 (fun w' hw => ⟨_, rfl, hw.below, ?_⟩)
      exact ⟨fun _ => List.any_eq_true.2 ⟨_, lx_mem (by omega), h2⟩, fun _ => by omega⟩
    · refine go ?_
      refine go_again (i + 1) ⟨by omega, fun j hj => ?_⟩ (by omega) ⟨fun g => rfl, fun g => rfl, fun g => rfl, fun g => rfl, trivial⟩ sb
      rcases Nat.lt_or_ge j i with h3 | h3
      · exact hi.2 j h3
      · obtain rfl : j = i := by omega
        exact h2
  · refine go ?_
    refine end1 (fun w' hw => ⟨_, rfl, hw.below, ?_⟩)
    refine ⟨fun h => by omega, fun hx => ?_⟩
    obtain ⟨x, hx, e⟩ := List.any_eq_true.1 hx
    obtain ⟨j, hj, rfl⟩ := List.mem_iff_getElem.1 hx
    have := hi.2 j (by omega)
    rw [lx_eq hj, e] at this; cases this
theorem containsFunc0_v (f : FuncId) (p : Int → Bool) (l : List Int) (a : Option Addr) (c : Nat) (w : World) (hl : Rd icell 1 w a l) (hn : l.length ≤ 9223372036854775807) (eg : ∀ args w, (callFunc f args).run Try.prog w = .ok (.enter f args) w)
    (hf : ∀ x ∈ l, ∀ w', Below w.heap.size w w' → Calls Try.prog f #[.int .i64 x] w' (fun e w'' => e = .returned (.bool (p x)) ∧ Below w'.heap.size w' w'')) :
    Calls Try.prog 52 #[.slice a l.length c, .func (.func f) #[] #[]] w (fun e w' => e = .returned (.bool (l.any p)) ∧ Below w.heap.size w w') := by
  refine go_in Try.func52 rfl Try.ntmps52 [] [] (Mem.start _) ?_
  refine go ?_
  refine GoL.cx (fun w' hw => indexFunc0_v f p l a c w' (hw.old hl) hn eg (fun x hx w2 hb => hf x hx w2 ((hw.below).trans (hb.mono hw.below.size)))) (fun i hi => ?_)
  refine go ?_
  refine ev1 ?_
  refine congrArg Value.bool ?_
  rw [Bool.eq_iff_iff, decide_eq_true_eq, List.any_eq_true]

section
variable {w0 : World} {Bs : List Nat} {P : Program} {n : Nat} {L : List (Nat × Value)} {H H' : List En} {ops : Array Oper} {K : (Nat → Value) → World → Prop} {os : List Oper} {u v : Value} {d : Nat} {T ty : TypeId} {pos : String} {af : Array Edge} {gd : Option (Nat × Bool)} {x y : Operand}
/-- a new list of zeros, by its value -/
def En.mk0 (k : Nat) (v : Value) : En := .ex fun b : Nat => .star [.pure (v = .slice (some ⟨b, 0, none⟩) k k), .cells b (ic (List.replicate k 0))]
theorem Ef.mks {t e : TypeId} {k : Nat} (het : ElemT P t e 1 8) (hz : ∀ i, P.info? e = some i → i.zero = some (.int .i64 0)) (hk : k ≤ 100000)
    (hx : ∀ g, evF n (tab L g) x = .int .i64 k := by intro g; simp only [evF_tmp, evF_const, tab_cons, Nat.reduceLT, Nat.reduceEqDiff, ↓reduceIte]; (try rfl)) (hy : ∀ g, evF n (tab L g) y = .int .i64 k := by intro g; simp only [evF_tmp, evF_const, tab_cons, Nat.reduceLT, Nat.reduceEqDiff, ↓reduceIte]; (try rfl)) : Ef w0 Bs P n ⟨some d, .makeSlice t x y, ty, pos, af, none⟩ L H (.mk0 k) H := fun g w hw => by
    obtain ⟨i, z, hi, hzz, hs, hb, hzs⟩ := het.he
    have hz0 := hz i hi
    rw [hz0] at hzz
    cases hzz
    obtain ⟨w', h1, h2, h3⟩ := run_make_full (P := P) (w := w) w.heap.size t e i (.int .i64 0) 1 het.ht hi hz0 hs .i64 .i64 k (by rw [hb]; omega) (by unfold maxLen; omega) (Nat.le_refl _)
    have hm : (madeCells (Value.int .i64 0).cells (k * 1)).toList = (List.replicate k (0 : Int)).flatMap (fun x => [Value.int .i64 x]) := by
      rw [ic_flat, Nat.mul_one]
      simp [madeCells, ic, Value.cells]
      apply List.ext_getElem (by simp)
      intro j h1 h2
      simp [Nat.mod_one]
    have ho : Own (fun x => [Value.int .i64 x]) 1 e w.heap.size w' (.slice (some ⟨w.heap.size, 0, none⟩) k k) (List.replicate k (0 : Int)) := Own.of (n := k) (by simp) hm h2
    have hmem : Mem w0 Bs (.own (fun x => [Value.int .i64 x]) 1 e (.slice (some ⟨w.heap.size, 0, none⟩) k k) (List.replicate k (0 : Int)) :: H) w' := hw.newOwn h3 (fun k hk => by simp [Value.ownBlock] at hk; omega) (ho.base (Nat.zero_le _))
    unfold opF
    have : (execOp (evF n (tab L g)) ⟨some d, .makeSlice t x y, ty, pos, af, none⟩).run P w = .ok (.value (.slice (some ⟨w.heap.size, 0, none⟩) k k)) w' := by
      simp only [execOp, hx g, hy g, Sem.run_bind, h1, Result.andThen_ok, Sem.run_pure]
    rw [this]
    exact Mem.exI w.heap.size (Mem.starI (A := [_, _]) (Mem.pureI rfl (hmem.o2c rfl .here)))
theorem GoL.mk0 {k : Nat} (hr : ∀ b, v = .slice (some ⟨b, 0, none⟩) k k → GoL w0 Bs P ops n K os L (.cells b (ic (List.replicate k 0)) :: H)) : GoL w0 Bs P ops n K os L (.mk0 k v :: H) := .mk fun g w hw => by
  obtain ⟨b, h1⟩ := Mem.exs hw
  obtain ⟨h2, h3⟩ := (Mem.flat h1).pures
  exact (hr b h2).go g w h3
theorem GoL.ptr {l : List Value} (hr : ∀ b, v = .pointer (some ⟨b, 0, none⟩) → GoL w0 Bs P ops n K os L (.cells b l :: H)) : GoL w0 Bs P ops n K os L (.ptr v l :: H) := .mk fun g w hw => by
  obtain ⟨b, h1, h2⟩ := hw.ptrE
  exact (hr b h1).go g w h2
end

/-- the words of the data, as they are laid -/
def putW (dat ws : List Int) : Nat → List Int
  | 0 => List.replicate 128 0
  | k + 1 => (putW dat ws k).set (lx dat k).toNat (lx ws k)
/-- the word of an order of a task -/
def ordW (lay dat : List Int) (o : LOrd) : Int :=
  encI o.op (if fromB o.op = true then lx dat o.fr.toNat else 0) (if o.op = 5 then lx lay o.tt.toNat else if toB o.op = true then lx dat o.tt.toNat else 0) (if o.op = 0 then 0 else lx lay o.nx.toNat)
def putO (os : List LOrd) (lay dat S : List Int) : Nat → List Int
  | 0 => S
  | k + 1 => (putO os lay dat S k).set (lx lay k).toNat (ordW lay dat (lx os k))
def layW (t : TD) (lay ws : List Int) : List Int := putO t.os lay (lay.drop t.os.length) (putW (lay.drop t.os.length) ws ws.length) t.os.length
/-- the error of words of a layout of a task -/
def layF (t : TD) (lay ws : List Int) : Int :=
  if ¬ (chkL t).2.2 = 0 then (chkL t).2.2 else if ¬ layL t lay = 0 then layL t lay else if ¬ (ws.length : Int) = t.data then 3 else if ws.any (fun n => decide (outP n 0 16777215)) = true then 7 else 0
theorem putW_len (dat ws : List Int) : ∀ k, (putW dat ws k).length = 128
  | 0 => by simp [putW]
  | k + 1 => by rw [putW, List.length_set, putW_len]
theorem putO_len (os : List LOrd) (lay dat S : List Int) (hS : S.length = 128) : ∀ k, (putO os lay dat S k).length = 128
  | 0 => hS
  | k + 1 => by rw [putO, List.length_set, putO_len os lay dat S hS]
theorem callLayS (args : Array Value) (w : World) : (callFunc 53 args).run Try.prog w = .ok (.enter 53 args) w := by go_simp
theorem Lay_bad (t : TD) (lay ws : List Int) (al aw : Option Addr) (cl cw : Nat) (w : World) (hn : t.Len) (hT : t.At w) (hl : Rd icell 1 w al lay) (hll : lay.length ≤ 9223372036854775807 ∧ lay.length ≤ cl) (hw : Rd icell 1 w aw ws) (hwl : ws.length ≤ 9223372036854775807) (he : ¬ layF t lay ws = 0) :
    Calls Try.prog 35 #[.agg #[.slice t.ao t.os.length t.co, .int .i64 t.data, .int .i64 t.lines, .slice t.ap t.ps.length t.cp], .slice al lay.length cl, .slice aw ws.length cw] w (fun e w' => e = .returned (.tuple #[.slice none 0 0, .int .i64 (layF t lay ws)]) ∧ Below w.heap.size w w') := by
  obtain ⟨⟨p, i, e⟩, hr⟩ : ∃ q : Int × Int × Int, q = chkL t := ⟨_, rfl⟩
  refine go_in Try.func35 rfl Try.ntmps35 [] [] (Mem.start _) ?_
  refine go ?_
  refine GoL.a (fun b1 => ?_)
  refine go ?_
  by_cases he2 : e = 0
  · subst he2
    refine GoL.c (fun w' hw => open_ok t p i w' hn (hT.old hw) hr.symm) (fun x => ?_)
    obtain ⟨x, b⟩ := x
    refine GoL.pure (fun hx => ?_)
    dsimp only at hx ⊢
    obtain ⟨rfl, h1, h2⟩ := hx
    have hok := plan_ok (chkL_ok hr.symm) h1 h2
    have hF : layF x.t lay ws = if ¬ layL x.t lay = 0 then layL x.t lay else if ¬ (ws.length : Int) = x.t.data then 3 else if ws.any (fun n => decide (outP n 0 16777215)) = true then 7 else 0 := by rw [layF, ← hr, if_neg (by simp)]
    refine go ?_
    refine GoL.cv (fun w' hw => pcheck_v x b lay al cl w' (hw.plan pk (hT.old hw)) hok (hw.old hl) hll) ?_
    rw [show layE x.n x.t.lines lay = layL x.t lay from rfl]
    have HF := hid hF
    clear hF
    refine go ?_
    refine go_if (fun h => ?_) (fun h => ?_)
    · refine go ?_
      refine ev2 ?_
      rw [HF.out, if_pos h]; exact ⟨rfl, rfl⟩
    refine go ?_
    refine go_if (fun h3 => ?_) (fun h3 => ?_)
    · refine go ?_
      refine ev2 ?_
      rw [HF.out, if_neg (by simpa using h), if_pos (by simpa using h3)]; exact ⟨rfl, rfl⟩
    refine go ?_
    refine GoL.cv (fun w' hw2 => containsFunc0_v 53 (fun n => decide (outP n 0 16777215)) ws aw cw w' (hw2.old hw) hwl callLayS (fun x hx w2 hb => LayS_v x w2)) ?_
    refine go ?_
    refine go_if (fun h4 => ?_) (fun h4 => ?_)
    · refine go ?_
      refine ev2 ?_
      rw [HF.out, if_neg (by simpa using h), if_neg (by simpa using h3), if_pos h4]; exact ⟨rfl, rfl⟩
    · exact absurd (by rw [HF.out, if_neg (by simpa using h), if_neg (by simpa using h3), if_neg (by simpa using h4)]) he
  · have hF : layF t lay ws = e := by rw [layF, ← hr, if_pos he2]
    rw [hF]
    clear hF
    refine GoL.cv (fun w' hw => open_bad t p i e w' hn (hT.old hw) hr.symm he2) ?_
    refine go ?_
    refine go_if (fun h => ?_) (fun h => ?_)
    rotate_left
    · exact absurd h he2
    refine go ?_
    exact ev2 ⟨rfl, rfl⟩
end

section
set_option linter.all false
set_option pp.maxSteps 100000
set_option maxRecDepth 100000
set_option maxHeartbeats 4000000
open Go.RowKit

theorem layF_ok {t : TD} {lay ws : List Int} (h : layF t lay ws = 0) : (chkL t).2.2 = 0 ∧ layL t lay = 0 ∧ (ws.length : Int) = t.data ∧ ∀ n ∈ ws, 0 ≤ n ∧ n ≤ 16777215 := by
  unfold layF at h
  split at h
  · rename_i h1; exact absurd h h1
  split at h
  · rename_i _ h1; exact absurd h h1
  split at h
  · cases h
  split at h
  · cases h
  rename_i h1 h2 h3 h4
  refine ⟨by simpa using h1, by simpa using h2, by simpa using h3, fun n hn => ?_⟩
  have h5 : ws.any (fun n => decide (outP n 0 16777215)) = false := by simpa using h4
  rw [List.any_eq_false] at h5
  have h6 := h5 n hn
  have h7 : ¬ outP n 0 16777215 := by simpa using h6
  unfold outP at h7
  omega
/-- a value that what stands in L gives -/
theorem Ef.pq {w0 : World} {Bs : List Nat} {P : Program} {n : Nat} {L : List (Nat × Value)} {H : List En} {u : Value} {d : Nat} {op : Op} {ty : TypeId} {pos : String} {af : Array Edge} {gd : Option (Nat × Bool)} (hq : isVC op = false := by rfl) (h : ∀ g w (R : Result Next → Prop), R (.ok (.value u) w) → R ((execOp (evF n (tab L g)) ⟨some d, op, ty, pos, af, gd⟩).run P w) := by intro g w R hR; go_simp; exact hR) :
    Ef w0 Bs P n ⟨some d, op, ty, pos, af, gd⟩ L H (fun v => .pure (v = u)) H := fun g w hw => by
  unfold opF
  have : (execOp (evF n (tab L g)) ⟨some d, op, ty, pos, af, gd⟩).run P w = .ok (.value u) w := h g w (fun r => r = .ok (.value u) w) rfl
  rw [this]
  exact Mem.pureI rfl hw
/-- the values while leads are followed -/
def wTo (lay : List Int) (o : LOrd) (z : Int) (k : Nat) : Int := if 2 ≤ k then lx lay (lx (leadsL o) 1).toNat else z
def wNx (lay : List Int) (o : LOrd) (k : Nat) : Int := if 1 ≤ k then lx lay (lx (leadsL o) 0).toNat else 0
theorem ordW_eq (lay dat : List Int) (o : LOrd) : ordW lay dat o = encI o.op (if fromB o.op = true then lx dat o.fr.toNat else 0) (wTo lay o (if toB o.op = true then lx dat o.tt.toNat else 0) (leadsL o).length) (wNx lay o (leadsL o).length) := by
  unfold ordW wTo wNx leadsL
  by_cases h0 : o.op = 0
  · simp [h0, toB]
  · by_cases h5 : o.op = 5
    · simp [h5, toB, lx]
    · simp [h0, h5, lx]
theorem Lay_ok (t : TD) (lay ws : List Int) (al aw : Option Addr) (cl cw : Nat) (w : World) (hn : t.Len) (hT : t.At w) (hl : Rd icell 1 w al lay) (hll : lay.length ≤ 9223372036854775807 ∧ lay.length ≤ cl) (hw : Rd icell 1 w aw ws) (he : layF t lay ws = 0) :
    Calls Try.prog 35 #[.agg #[.slice t.ao t.os.length t.co, .int .i64 t.data, .int .i64 t.lines, .slice t.ap t.ps.length t.cp], .slice al lay.length cl, .slice aw ws.length cw] w (Ret (fun g : Nat => .tuple #[.slice (some ⟨g, 0, none⟩) 128 128, .int .i64 0]) (fun g => [.cells g (ic (layW t lay ws))]) w) := by
  obtain ⟨⟨p, i, e⟩, hr⟩ : ∃ q : Int × Int × Int, q = chkL t := ⟨_, rfl⟩
  obtain ⟨e1, e2, e3, e4⟩ := layF_ok he
  rw [← hr] at e1
  dsimp only at e1
  subst e1
  refine go_in Try.func35 rfl Try.ntmps35 [] [] (Mem.start _) ?_
  refine go ?_
  refine GoL.a (fun b1 => ?_)
  refine go ?_
  refine GoL.c (fun w' hw => open_ok t p i w' hn (hT.old hw) hr.symm) (fun x => ?_)
  obtain ⟨x, b⟩ := x
  refine GoL.pure (fun hx => ?_)
  dsimp only at hx ⊢
  obtain ⟨rfl, h1, h2⟩ := hx
  have htok := chkL_ok hr.symm
  have hok := plan_ok htok h1 h2
  have hl0 : layE x.n x.t.lines lay = 0 := e2
  have hL := hid (layE_ok hl0)
  have htok2 := hid htok
  have hto := hT.o
  have hd1 := htok.d1
  have hl1 := htok.l1
  have hw17 : ws.length ≤ 16 := by omega
  refine go ?_
  refine GoL.cv (fun w' hw => pcheck_v x b lay al cl w' (hw.plan pk (hT.old hw)) hok (hw.old hl) hll) ?_
  rw [hl0]
  have e3' := hid e3
  clear hl0 e2 e3 he hok htok
  refine go ?_
  refine go_if (fun h => ?_) (fun h => ?_)
  · exact absurd h (by have := e3'.out; omega)
  refine go ?_
  refine GoL.cv (fun w' hw2 => containsFunc0_v 53 (fun n => decide (outP n 0 16777215)) ws aw cw w' (hw2.old hw) (by omega) callLayS (fun x hx w2 hb => LayS_v x w2)) ?_
  have e5 : ws.any (fun n => decide (outP n 0 16777215)) = false := by
    rw [List.any_eq_false]; intro n hn; have := e4 n hn; simpa using (show ¬ outP n 0 16777215 by unfold outP; omega)
  rw [e5]
  have e4' := hid e4
  clear e5 e4
  refine go ?_
  refine D.e0 [] [] (fun X F => Ef.mks (k := 128) elI elI' (by omega)) ?_
  refine go ?_
  have hol : x.t.os.length ≤ lay.length := by have := hL.out.1; unfold PD.n at this; omega
  refine D.q ⟨_, fun X F => Ex.sl (l := lay) (k := x.t.os.length) (m := 1) (hi := Int.toNat_natCast _), ?_⟩
  have hdr := Rd.drop hl x.t.os.length hll.2
  have hdl : ((lay.drop x.t.os.length).length : Int) ≤ ws.length ∧ (ws.length : Int) ≤ (lay.drop x.t.os.length).length := by
    have h1 := hL.out.1; have h2 := e3'.out; rw [List.length_drop]; unfold PD.n at h1; omega
  have hdm : ∀ a ∈ lay.drop x.t.os.length, 0 ≤ a ∧ a < 128 := fun a ha => by have := hL.out.2.1 a (List.mem_of_mem_drop ha); omega
  have HR : Hid (layW x.t lay ws = putO x.t.os lay (lay.drop x.t.os.length) (putW (lay.drop x.t.os.length) ws ws.length) x.t.os.length) := hid rfl
  generalize lay.drop x.t.os.length = dat at hdr hdl hdm HR ⊢
  generalize sfA al x.t.os.length 1 cl = ad at hdr ⊢
  generalize cl - x.t.os.length = cd
  refine D.e (A := fun ds v => .pure (v = ds.headD undef)) [0] [] [] (fun X F => Ef.pq) ?_
  refine D.nil [(6, fun X => .pure (X 6 = X 0)), (0, fun X => .mk0 128 (X 0))] (fun X => GoL.pure fun hX6 => GoL.mk0 fun g hX => ?_) (hchk := (by show chkDD _ _ 0 [6, 0] = true; decide +kernel))
  rw [hX6, hX]
  clear hX hX6 X
  refine go ?_
  refine go_loop (X := Nat) (fun k => k ≤ ws.length) (fun k => ws.length - k) (fun k => [(52, .int .i64 k)]) (fun k => [.cells g (ic (putW dat ws k)), .cells b1 [.slice x.t.ao x.t.os.length x.t.co, .int .i64 x.t.data, .int .i64 x.t.lines, .slice x.t.ap x.t.ps.length x.t.cp]]) 0 [1, 3, 10, 11, 50, 51] (Nat.zero_le _) (by simp [AgreeL, At]) sb (fun k hk => ?_)
  have HPL := hid (putW_len dat ws k)
  refine go ?_
  refine go_if (fun h => ?_) (fun h => ?_)
  · have hkw : k < ws.length := by omega
    have hkd : (k : Int) < (dat.length : Int) := by omega
    have hkb := hdm _ (lx_mem (l := dat) (i := k) (by omega))
    refine go ?_
    refine GoL.sa (b := g) (l := putW dat ws k) (i := (lx dat k).toNat) (z := lx ws k) rp (by have := HPL.out; omega) ?_
    refine go ?_
    exact go_again (k + 1) hkw (by omega) (by simp [AgreeL, At]) sb
  obtain rfl : k = ws.length := by omega
  generalize putW dat ws ws.length = S0 at HPL HR ⊢
  refine go ?_
  refine go_loop (X := Nat) (fun i => i ≤ x.t.os.length) (fun i => x.t.os.length - i) (fun i => [(68, .int .i64 i)]) (fun i => [.cells g (ic (putO x.t.os lay dat S0 i))]) 0 [1, 10, 11, 66, 67] (Nat.zero_le _) (by simp [AgreeL, At]) sb (fun i hi => ?_)
  have HOL := hid (putO_len x.t.os lay dat S0 HPL.out i)
  refine go ?_
  refine go_if (fun h => ?_) (fun h => ?_)
  rotate_left
  · obtain rfl : i = x.t.os.length := by omega
    refine go ?_
    exact end2 (fun w' hw => ⟨g, rfl, by rw [HR.out]; exact hw.done sb⟩)
  have hi2 : i < x.t.os.length := by omega
  have hodd := oddL_ok (htok2.out.o _ (lx_mem (l := x.t.os) hi2))
  have hlb : 0 ≤ lx lay i ∧ lx lay i < 128 := by have := hL.out.2.1 _ (lx_mem (l := lay) (i := i) (by omega)); omega
  have HPO : Hid (putO x.t.os lay dat S0 (i + 1) = (putO x.t.os lay dat S0 i).set (lx lay i).toNat (ordW lay dat (lx x.t.os i))) := hid rfl
  rw [ordW_eq] at HPO
  generalize putO x.t.os lay dat S0 i = S at HOL HPO ⊢
  refine go ?_
  generalize lx x.t.os i = o at hodd HPO ⊢
  refine GoL.a (fun b15 => ?_)
  refine go ?_
  refine D.cv (fun F w' hw => uses_v w') ?_
  refine go ?_
  refine D.q ⟨_, fun X F => Ex.use hodd.1 (fun g => rfl) (fun g => rfl), ?_⟩
  refine D.al ?_
  refine D.al ?_
  refine D.s (A := fun dp _ => .ptr (dp.headD undef) [.int .i64 o.op, .int .i64 0, .int .i64 0, .int .i64 0]) [7] [] [7] (fun X F => Ef.st (off := 0) Pick.here (hl := rfl)) ?_
  refine D.nil [(9, fun X => .ptr (X 7) [.int .i64 o.op, .int .i64 0, .int .i64 0, .int .i64 0]), (8, fun X => .ptr (X 8) [.bool false, .bool false, .bool false, .nilFunc])] (fun X => GoL.ptr fun b16 hX6 => ?_) (hchk := (by show chkDD _ _ 0 [9, 8] = true; decide +kernel))
  refine GoL.mem (H' := .ptr (X 8) [.bool false, .bool false, .bool false, .nilFunc] :: [.cells b16 [.int .i64 o.op, .int .i64 0, .int .i64 0, .int .i64 0], .cells g (ic S), .cells b15 [.int .i64 o.op, .int .i64 o.fr, .int .i64 o.tt, .int .i64 o.nx]]) (fun w hw => hw.sub sb) ?_
  refine GoL.ptr fun b17 hX => ?_
  rw [hX6, hX]
  clear hX hX6 X
  refine GoL.st ⟨b17, 0, _, _, [.bool (fromB o.op), .bool (toB o.op), .bool (twB o.op), .func (.func (leadN o.op)) #[] #[]], 4, .agg #[.bool (fromB o.op), .bool (toB o.op), .bool (twB o.op), .func (.func (leadN o.op)) #[] #[]], _, fun g => rfl, fun g => rfl, rfl, (by intro w R hR; go_simp; exact hR), rfl, Rep.here, rfl, (by simp [Value.oneCell']), (by simp), ?_⟩
  simp only [setLs, List.set_cons_zero, List.set_cons_succ, Nat.reduceAdd]
  obtain ⟨hop, hfr, htt, hld⟩ := hodd
  have hcl := leadN_call o.op
  have hde := e3'.out
  have hdw : x.t.data ≤ (dat.length : Int) := by omega
  clear hde
  refine go ?_
  refine go_join2 [(1, .slice al lay.length cl), (10, .slice (some ⟨g, 0, none⟩) 128 128), (11, .slice ad dat.length cd), (14, .int .i64 i), (15, .pointer (some ⟨b15, 0, none⟩)), (16, .pointer (some ⟨b16, 0, none⟩)), (17, .pointer (some ⟨b17, 0, none⟩)), (66, .slice x.t.ao x.t.os.length x.t.co), (67, .int .i64 x.t.os.length), (68, .int .i64 i)] [.cells b17 [.bool (fromB o.op), .bool (toB o.op), .bool (twB o.op), .func (.func (leadN o.op)) #[] #[]], .cells b16 [.int .i64 o.op, .int .i64 (if fromB o.op = true then lx dat o.fr.toNat else 0), .int .i64 0, .int .i64 0], .cells g (ic S), .cells b15 [.int .i64 o.op, .int .i64 o.fr, .int .i64 o.tt, .int .i64 o.nx]] ?_ ?_
  · refine go_if (fun h1 => ?_) (fun h1 => ?_)
    · have h2 := hfr h1
      have h3 := hdm _ (lx_mem (l := dat) (i := o.fr.toNat) (by omega))
      rw [if_pos h1]
      refine go ?_
      exact xj_n (by simp [AgreeL, At]) sb
    · rw [if_neg (by simpa using h1)]
      refine go ?_
      exact xj_n (by simp [AgreeL, At]) sb
  have bvf : 0 ≤ (if fromB o.op = true then lx dat o.fr.toNat else 0) ∧ (if fromB o.op = true then lx dat o.fr.toNat else 0) ≤ 127 := by
    split
    · rename_i h1
      have h2 := hfr h1
      have := hdm _ (lx_mem (l := dat) (i := o.fr.toNat) (by omega)); omega
    · omega
  generalize (if fromB o.op = true then lx dat o.fr.toNat else 0) = vf at HPO bvf ⊢
  refine go ?_
  refine go_join2 [(1, .slice al lay.length cl), (10, .slice (some ⟨g, 0, none⟩) 128 128), (11, .slice ad dat.length cd), (14, .int .i64 i), (15, .pointer (some ⟨b15, 0, none⟩)), (16, .pointer (some ⟨b16, 0, none⟩)), (17, .pointer (some ⟨b17, 0, none⟩)), (66, .slice x.t.ao x.t.os.length x.t.co), (67, .int .i64 x.t.os.length), (68, .int .i64 i)] [.cells b17 [.bool (fromB o.op), .bool (toB o.op), .bool (twB o.op), .func (.func (leadN o.op)) #[] #[]], .cells b16 [.int .i64 o.op, .int .i64 vf, .int .i64 (if toB o.op = true then lx dat o.tt.toNat else 0), .int .i64 0], .cells g (ic S), .cells b15 [.int .i64 o.op, .int .i64 o.fr, .int .i64 o.tt, .int .i64 o.nx]] ?_ ?_
  · refine go_if (fun h1 => ?_) (fun h1 => ?_)
    · have h2 := htt h1
      have h3 := hdm _ (lx_mem (l := dat) (i := o.tt.toNat) (by omega))
      rw [if_pos h1]
      refine go ?_
      exact xj_n (by simp [AgreeL, At]) sb
    · rw [if_neg (by simpa using h1)]
      refine go ?_
      exact xj_n (by simp [AgreeL, At]) sb
  have bvt : 0 ≤ (if toB o.op = true then lx dat o.tt.toNat else 0) ∧ (if toB o.op = true then lx dat o.tt.toNat else 0) ≤ 127 := by
    split
    · rename_i h1
      have h2 := htt h1
      have := hdm _ (lx_mem (l := dat) (i := o.tt.toNat) (by omega)); omega
    · omega
  generalize (if toB o.op = true then lx dat o.tt.toNat else 0) = vt at HPO bvt ⊢
  refine go ?_
  refine GoL.c (fun w' hw => leads_v o w') (fun pp => ?_)
  obtain ⟨a99, c99⟩ := pp
  dsimp only
  refine go ?_
  have hll2 : (leadsL o).length ≤ 2 := by unfold leadsL; split; simp; split <;> simp
  refine go_loop (X := Nat) (fun k => k ≤ (leadsL o).length) (fun k => (leadsL o).length - k) (fun k => [(101, .int .i64 k)]) (fun k => [.rd icell 1 a99 (leadsL o), .cells b16 [.int .i64 o.op, .int .i64 vf, .int .i64 (wTo lay o vt k), .int .i64 (wNx lay o k)], .cells g (ic S)]) 0 [1, 10, 11, 14, 16, 66, 67, 68, 99, 100] (Nat.zero_le _) (by simp [AgreeL, At]) (by simp only [wTo, wNx, Nat.not_succ_le_zero, if_false]; exact sb) (fun k hk => ?_)
  refine go ?_
  refine go_if (fun h1 => ?_) (fun h1 => ?_)
  · have hk2 : k < (leadsL o).length := by omega
    have hlb2 := hld _ (lx_mem (l := leadsL o) hk2)
    refine go ?_
    refine go_if (fun h3 => ?_) (fun h3 => ?_)
    · have hk0 := hid h3
      clear h3
      refine go ?_
      rw [show wTo lay o vt k = wTo lay o vt (k + 1) by have := hk0.out; unfold wTo; rw [if_neg (by omega), if_neg (by omega)], show lx lay (lx (leadsL o) k).toNat = wNx lay o (k + 1) by have := hk0.out; obtain rfl : k = 0 := (by omega); rfl]
      exact go_again (k + 1) hk2 (by omega) (by simp [AgreeL, At]) sb
    · have hk0 := hid (show k = 1 by omega)
      clear h3
      refine go ?_
      rw [show wNx lay o k = wNx lay o (k + 1) by have := hk0.out; unfold wNx; rw [if_pos (by omega), if_pos (by omega)], show lx lay (lx (leadsL o) k).toNat = wTo lay o vt (k + 1) by have := hk0.out; obtain rfl : k = 1 := (by omega); rfl]
      exact go_again (k + 1) hk2 (by omega) (by simp [AgreeL, At]) sb
  obtain rfl : k = (leadsL o).length := by omega
  have hlay : ∀ z : Int, 0 ≤ z → z < (x.t.os.length : Int) → 0 ≤ lx lay z.toNat ∧ lx lay z.toNat ≤ 127 := fun z z0 z1 => by
    have := hL.out.2.1 _ (lx_mem (l := lay) (i := z.toNat) (by omega)); omega
  have bv2 : 0 ≤ wTo lay o vt (leadsL o).length ∧ wTo lay o vt (leadsL o).length ≤ 127 := by
    unfold wTo
    split
    · have := hld _ (lx_mem (l := leadsL o) (i := 1) (by omega)); exact hlay _ this.1 this.2
    · exact bvt
  have bvn : 0 ≤ wNx lay o (leadsL o).length ∧ wNx lay o (leadsL o).length ≤ 127 := by
    unfold wNx
    split
    · have := hld _ (lx_mem (l := leadsL o) (i := 0) (by omega)); exact hlay _ this.1 this.2
    · omega
  generalize wTo lay o vt (leadsL o).length = vt2 at HPO bv2 ⊢
  generalize wNx lay o (leadsL o).length = vn at HPO bvn ⊢
  have he1 := hL.out.1
  have hil : i < lay.length := by omega
  have hiz : (i : Int) < (lay.length : Int) := by omega
  clear he1
  refine go_exit ?_
  refine xt_e ?_
  refine xt_e ?_
  refine xb_e ?_
  refine xt_n ?_
  refine go_sub (K := [.cells g (ic S), .cells b16 [.int .i64 o.op, .int .i64 vf, .int .i64 vt2, .int .i64 vn]]) ?_ sb
  refine go_drw [.cells g (ic S)] [.cells b16 [.int .i64 o.op, .int .i64 vf, .int .i64 vt2, .int .i64 vn]] ?_
  refine go ?_
  refine D.cv (fun F w' hw => Encode_v o.op vf vt2 vn ⟨hop, bvf, bv2, bvn⟩ w') ?_
  refine go ?_
  refine D.s (A := fun _ _ => .cells g (ic (S.set (lx lay i).toNat (encI o.op vf vt2 vn)))) [] [] [12] (fun X F => Ef.sa .here (by have := HOL.out; omega)) ?_
  refine D.nil [(11, fun _ => .cells g (ic (S.set (lx lay i).toNat (encI o.op vf vt2 vn))))] (fun X => ?_) (hchk := (by show chkDD _ _ 1 [11] = true; decide +kernel))
  rw [← HPO.out]
  refine go ?_
  exact go_again (i + 1) hi2 (by omega) (by simp [AgreeL, At]) sb
end


end Go.Proofs.Ytigehmghcafblaa
