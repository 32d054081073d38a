/- slices.Compact at entries and at units. -/
import Derived.Test.YtleknidlgmmgbaaGreattsW38
import Derived.Lib.SliceRun
import Derived.Test.YtleknidlgmmgbaaGreattsCZ
set_option linter.all false
set_option maxRecDepth 100000
set_option maxHeartbeats 16000000
namespace Go.Proofs.YtleknidlgmmgbaaGreat

open Go.RowKit


section
variable {P : Program}
theorem run_clear_row (w : World) (t e ty : TypeId) (z : Value) (ht : P.underlying t = some (.slice e)) (hv : ∀ w, (zeroValue e).run P w = .ok z w) (h1 : ∀ v ∈ z.cells.toList, v.oneCell' = true) (b o n c : Nat) (hn : 0 < n)
    (hc : ∀ j, j < n * z.cells.size → (w.cell? ⟨b, o + j, none⟩).isSome = true) (hf : ∀ j, j < n * z.cells.size → w.frozen? ⟨b, o + j, none⟩ = false) :
    (Builtin.clear_ #[t] ty #[.slice (some ⟨b, o, none⟩) n c]).run P w = .ok (.tuple #[]) (w.setCells b o (Builtin.zeroCells z.cells n).toList) := by
  have hst := run_storeCells_cells (P := P) b o (Builtin.zeroCells z.cells n).toList 0 w (by simpa [size_zeroCells] using hc) (by simpa [size_zeroCells] using hf) (by
    intro v hv'; rw [Array.mem_toList_iff] at hv'; obtain ⟨i, hi, rfl⟩ := Array.mem_iff_getElem.1 hv'
    have hi' : i < n * z.cells.size := by simpa [size_zeroCells] using hi
    have hm : i % z.cells.size < z.cells.size := Nat.mod_lt _ (by rcases Nat.eq_zero_or_pos z.cells.size with h | h; rw [h] at hi'; simp at hi'; exact h)
    have e9 : (Builtin.zeroCells z.cells n)[i] = z.cells[i % z.cells.size] := by simp [Builtin.zeroCells, hm]
    rw [e9]
    exact h1 _ (by simp))
  simp only [Nat.add_zero] at hst
  obtain ⟨m, rfl⟩ : ∃ m, n = m + 1 := ⟨n - 1, by omega⟩
  simp [Builtin.clear_, run_underlying ht, hv, hst]
end
theorem oldb_setCells {Bs : List Nat} {b : Nat} (hb : b ∈ Bs) : ∀ (l : List Value) (o : Nat) {w0 w : World}, OldB Bs w0 w → OldB Bs w0 (w.setCells b o l)
  | [], _, _, _, h => h
  | _ :: r, o, _, _, h => oldb_setCells hb r (o + 1) (h.set hb)
theorem cells_behind {b : Nat} {L : List Value} : ∀ (l : List Value) (o : Nat) {w : World}, L.length ≤ o → Cells w b L → Cells (w.setCells b o l) b L
  | [], _, _, _, h => h
  | v :: r, o, w, ho, h => cells_behind r (o + 1) (by omega) (by have := Cells.set (i := o) (u := v) h; rwa [List.set_eq_of_length_le ho] at this)
theorem Cells.take {w : World} {b : Nat} {L : List Value} (h : Cells w b L) (n : Nat) : Cells w b (L.take n) := ⟨h.1, fun i v hv => h.2.1 i v (by rw [List.getElem?_take] at hv; split at hv; exact hv; cases hv), h.2.2⟩
theorem flat_take {β : Type} {f : β → List Value} {m : Nat} (hf : ∀ x, (f x).length = m) : ∀ (l : List β) (n : Nat), (l.take n).flatMap f = (l.flatMap f).take (n * m)
  | [], n => by simp
  | x :: l, 0 => by simp
  | x :: l, n + 1 => by
    have e1 : (f x).take (n * m + m) = f x := List.take_of_length_le (by rw [hf]; omega)
    have e2 : n * m + m - m = n * m := by omega
    rw [List.take_succ_cons, List.flatMap_cons, List.flatMap_cons, flat_take hf l n, Nat.add_mul, Nat.one_mul, List.take_append, hf, e1, e2]
theorem flat_len {β : Type} {f : β → List Value} {m : Nat} (hf : ∀ x, (f x).length = m) : ∀ (l : List β), (l.flatMap f).length = l.length * m
  | [] => by simp
  | x :: l => by rw [List.flatMap_cons, List.length_append, hf, flat_len hf l, List.length_cons, Nat.add_mul, Nat.one_mul]; omega
section
variable {β : Type} [DecidableEq β]
theorem compL_snoc {x : β} : ∀ {l : List β} (h : l ≠ []), compL (l ++ [x]) = if l.getLast? = some x then compL l else compL l ++ [x]
  | [y], _ => by
    show (if y = x then [x] else y :: [x]) = _
    by_cases e : y = x <;> simp [compL, e]
  | y :: z :: l, _ => by
    have ih := compL_snoc (x := x) (l := z :: l) (by simp)
    show (if y = z then compL (z :: l ++ [x]) else y :: compL (z :: l ++ [x])) = _
    rw [ih, List.getLast?_cons_cons]
    show _ = if _ then (if y = z then compL (z :: l) else y :: compL (z :: l)) else (if y = z then compL (z :: l) else y :: compL (z :: l)) ++ [x]
    by_cases e2 : (z :: l).getLast? = some x
    · rw [if_pos e2, if_pos e2]
    · rw [if_neg e2, if_neg e2]
      by_cases e1 : y = z
      · rw [if_pos e1, if_pos e1]
      · rw [if_neg e1, if_neg e1]; rfl
theorem comp_take {l : List β} {n : Nat} (h : n + 1 < l.length) : compL (l.take (n + 2)) = if l[n] = l[n + 1] then compL (l.take (n + 1)) else compL (l.take (n + 1)) ++ [l[n + 1]] := by
  have hne : l.take (n + 1) ≠ [] := by
    intro e; have := congrArg List.length e; rw [List.length_take, List.length_nil] at this; omega
  rw [List.take_succ_eq_append_getElem h, compL_snoc hne]
  have hl : (l.take (n + 1)).getLast? = some l[n] := by
    rw [List.getLast?_eq_getElem?, List.length_take, Nat.min_eq_left (by omega), Nat.add_sub_cancel, List.getElem?_take, if_pos (by omega), List.getElem?_eq_getElem]
  rw [hl]
  simp only [Option.some.injEq]
theorem comp_nodup {l : List β} {n : Nat} (hn : n + 1 ≤ l.length) (h : ∀ j (h : j + 1 < l.length), j < n → ¬ l[j] = l[j + 1]) : compL (l.take (n + 1)) = l.take (n + 1) := by
  induction n with
  | zero =>
    obtain ⟨x, t, rfl⟩ : ∃ x t, l = x :: t := by cases l with | nil => simp at hn | cons x t => exact ⟨x, t, rfl⟩
    simp [compL]
  | succ n ih =>
    rw [comp_take (by omega), if_neg (h n (by omega) (by omega)), ih (by omega) (fun j h1 h2 => h j h1 (by omega)), ← List.take_succ_eq_append_getElem]
theorem comp_all {l : List β} (h : ∀ j (h : j + 1 < l.length), ¬ l[j] = l[j + 1]) : compL l = l := by
  cases l with
  | nil => rfl
  | cons x t =>
    have := comp_nodup (l := x :: t) (n := t.length) (by simp) (fun j h1 _ => h j h1); rwa [List.take_of_length_le (by simp)] at this
end

theorem cell_unt {w : World} {g : Nat} {l : List Unt} (h : Cells w g (l.flatMap Unt.cs)) {i : Nat} {x : Unt} (hi : l[i]? = some x) : w.cell? ⟨g, i * 2, none⟩ = some (.int .i64 x.mach) ∧ w.cell? ⟨g, i * 2 + 1, none⟩ = some (.string x.unit) := by
  have k := fun j v (hj : (Unt.cs x)[j]? = some v) => h.2.1 (i * 2 + j) v (flat_get Unt.cs 2 (fun _ => rfl) l i x hi j v hj)
  exact ⟨k 0 _ rfl, k 1 _ rfl⟩
theorem set_unt (x : Unt) : ∀ (l : List Unt) (i : Nat), (((l.flatMap Unt.cs).set (i * 2) (.int .i64 x.mach)).set (i * 2 + 1) (.string x.unit)) = (l.set i x).flatMap Unt.cs
  | [], i => by simp
  | y :: l, 0 => by simp [Unt.cs]
  | y :: l, i + 1 => by
    have ih := set_unt x l i
    have e : (i + 1) * 2 = i * 2 + 1 + 1 := by omega
    have e2 : (y :: l).set (i + 1) x = y :: l.set i x := rfl; rw [e2, List.flatMap_cons, List.flatMap_cons, ← ih, e]
    rfl
theorem eq_unt (x y : Unt) : x = y ↔ x.mach = y.mach ∧ x.unit.toList = y.unit.toList := by
  constructor
  · intro h; subst h; simp
  · intro h; cases x; cases y; simp at h ⊢; obtain ⟨h0, h1⟩ := h; exact ⟨h0, ba_inj h1⟩
theorem XW39b {A : Prop} (e : A := by first | (with_reducible exact kg) | (apply Cells.conv; (focus (exact kg)); (first | rfl | (simp; done)))) : A := e
theorem XW39c {A B1 : Prop} (hX1 : B1) (e : B1 → A := by exact ret_F _ (res_t Tryz.results98 ((getD_F (by decide)).trans sl2))) : A := e hX1
theorem XW39d {A B1 : Prop} (hX1 : B1) (e : B1 → A := by exact loop_F (n := 61) (fun kJ sJ wJ => ∃ (m : Nat), kJ = l.length - m ∧ sJ 3 = .int .i64 ((m : Int) + 1) ∧ sJ 0 = s4 0 ∧ OldB [] w wJ ∧ m + 1 ≤ l.length ∧ (Hid (∀ j (h : j + 1 < l.length), j < m → ¬ l[j] = l[j + 1]))) ⟨0, rfl, (by first | exact sl3 | (rw [sl3]; go_num) | (rw [sl3]; rfl)), rfl, OldB.refl _ _, by omega, hid (fun j h1 h2 => by omega)⟩) : A := e hX1
theorem compact_unt (g cap : Nat) (l : List Unt) (w : World) (hg : Cells w g (l.flatMap Unt.cs)) (hcap : l.length ≤ cap) (hll : l.length ≤ 1000) :
    Calls Tryz.prog 98 #[.slice (some ⟨g, 0, none⟩) l.length cap] w (fun e w' => ∃ c, e = .returned (.slice (some ⟨g, 0, none⟩) (compL l).length c) ∧ Cells w' g ((compL l).flatMap Unt.cs) ∧ OldB [g] w w') := by
 obtain ⟨i1, hi1, hz1, hy1, hx1⟩ := info_parts info_unt
 have hzv : ∀ w, (zeroValue 69).run Tryz.prog w = .ok (.agg #[.int .i64 0, .string ByteArray.empty]) w := fun w => by simp [zeroValue, typeInfo, hi1, hz1, go_sem]
 have kg := hg
 refine enter_F Tryz.func98 rfl Tryz.ntmps98 (by simp) ?_
 intro s0 hs; have sl0 : s0 0 = .slice (some ⟨g, 0, none⟩) l.length cap := hs 0 (by simp); clear hs; have HB := hid (OldB.refl [g] w); have qg := kg.1
 refine nr ?_; intros; refine pl ?_; refine lx [] ?_; clear sl0; intro _ sl0; refine lr ?_; intros
 refine P3 ?_
 refine lx [8] ?_; clear sl0; intro _ sl0 sl8; refine ln ?_; intros
 refine cond_E sl8 (by decide) ?_ ?_ <;> (clear sl8; intro h8 sl8)
 ·skip
  have Hd := hid (show compL l = l from comp_all fun j h => by simp at h8; omega)
  refine nr ?_; intros; refine P2 ?_; clear sl0 sl8; refine lx [2] ?_; intro _ sl2; refine ln ?_; intros
  refine XW39c ?_; exact ⟨_, by rw [Hd.out], by rw [Hd.out]; exact kg, HB.out⟩
 ·skip
  have hl2 : 2 ≤ l.length := by simp at h8; omega
  refine nr ?_; intros; refine pl ?_; clear sl8; refine lx [3] ?_; clear sl0; intro s4 sl0 sl3; refine ln ?_; intros
  have hc0_0 := hid sl0; refine XW39d ?_; clear sl3; rintro kJ s5 w6 ⟨m, rfl, sl3, e0, hb, hml, hnd⟩; replace sl0 := e0.trans sl0; clear e0; have hoJ := hb; clear qg; revert HB; revert kg; refine uO hb ?_; clear hb; intro kg qg HB; have HoJ := hid hoJ; clear hoJ; have HL8 := HoJ; clear HoJ
  refine nr ?_; intros
  refine P4 ?_
  refine lx [13] ?_; clear sl0 sl3; intro _ sl0 sl3 sl13; refine ln ?_; intros
  refine cond_E sl13 (by decide) ?_ ?_ <;> (clear sl13; intro h13 sl13)
  ·skip
   have hlt : m + 1 < l.length := by simp at h13; omega
   have hlt2 : m < l.length := by omega
   have hlt' : (m : Int) + 1 < l.length := by omega
   have hlt2' : (m : Int) < l.length := by omega
   have e1 : ((m : Int) + 1).toNat = m + 1 := by omega
   obtain ⟨y, hy⟩ : ∃ z, l[m + 1] = z := ⟨_, rfl⟩; obtain ⟨x, hx⟩ : ∃ z, l[m] = z := ⟨_, rfl⟩; obtain ⟨c0, c1⟩ := cell_unt kg (i := m + 1) (x := y) (by rw [List.getElem?_eq_getElem hlt, hy]); obtain ⟨d0, d1⟩ := cell_unt kg (i := m) (x := x) (by rw [List.getElem?_eq_getElem hlt2, hx]); have Hy := hid hy; have Hx := hid hx; clear hy hx; have w1 : IntKind.i64.wrap ((m : Int) + 1 - 1) = (m : Int) := (IntWalk.i64_in _ (by omega)).trans (by omega); have w2 : IntKind.i64.wrap (m : Int) = (m : Int) := IntWalk.i64_in _ (by omega); have w3 : IntKind.i64.wrap ((m : Int) + 1 + 1) = (m : Int) + 1 + 1 := IntWalk.i64_in _ (by omega)
   refine zx ?_; intros
   refine rgQ 9 [?_,?_,?_,?_,?_,?_,?_,?_,?_] ?walk30 ?dep30
   case walk30 =>
    iterate 9 refine rq ?_
    refine walkR_nil (fun X hX w10 hwz hcz => ?_); clear hX hcz
    (try clear X)
    skip; have hb := hwz.unDrew; clear hwz; clear qg; revert HB; revert HL8; revert kg; refine uO hb ?_; clear hb; intro kg qg HL8 HB; refine listF_step rfl (fun K' hK => ?_); unfold opF; go_simp
    suffices hs : K' (.bool (decide ((y.mach = x.mach ∧ y.unit.toList = x.unit.toList)))) w10 by (by_cases q0 : y.mach = x.mach <;> by_cases q1 : y.unit.toList = x.unit.toList <;> simp [q0, q1] at hs ⊢ <;> exact hs)
    refine hK _ _ ?_; clear hK K'; clear sl13; refine lx [25] ?_; clear sl0 sl3; intro _ sl0 sl3 sl25; refine ln ?_; intros
    refine cond_E sl25 (by decide) ?_ ?_ <;> (clear sl25; intro h25 sl25)
    ·skip
     have hyx : y = x := by rw [eq_unt]; exact of_decide_eq_true h25
     have Hdu := hid (show l[m] = l[m + 1] by rw [Hx.out, Hy.out, hyx]); clear hyx
     have hcap2 : m + 1 < cap := by omega
     have hcap3 : ¬ cap = m + 1 := by omega
     have hcap4 : ¬ m + 1 = cap := by omega
     have hm1 : (0 : Int) ≤ (m : Int) + 1 := by omega
     have hm2' : (m : Int) + 1 ≤ (l.length : Int) := by omega
     have Hst := hid (show l.take (m + 1) = compL (l.take (m + 1 + 0 + 1)) by rw [Nat.add_zero, comp_take hlt, if_pos Hdu.out, comp_nodup (by omega) (fun j h1 h2 => hnd.out j h1 h2)])
     refine nr ?_; intros
     refine P4 ?_
     clear sl25; refine lx [4] ?_; clear sl0 sl3; intro _ sl0 sl3 sl4; refine lr ?_; intros; refine pl ?_; refine lx [5] ?_; clear sl0 sl3 sl4; intro s16 sl0 sl3 sl4 sl5; refine ln ?_; intros
     have hc1_0 := hid sl0; have hc1_4 := hid sl4; refine loop_F (n := 61) (fun kJ sJ wJ => ∃ (q p : Nat) (m2 : List Unt), kJ = l.length - q ∧ sJ 3 = .int .i64 ((p : Int) + 1) ∧ sJ 5 = .int .i64 ((q : Int) + 1) ∧ sJ 0 = s16 0 ∧ sJ 4 = s16 4 ∧ OldB [g] w10 wJ ∧ Cells wJ g (m2.flatMap Unt.cs) ∧ p ≤ m + q ∧ m + 1 + q + 1 ≤ l.length ∧ m2.length = l.length ∧ (Hid (∀ j (h1 : j < m2.length) (h2 : j < l.length), m + 1 + q ≤ j → m2[j] = l[j])) ∧ Hid (m2.take (p + 1) = compL (l.take (m + 1 + q + 1)))) ⟨0, m, l, rfl, (by first | exact sl3 | (rw [sl3]; go_num) | (rw [sl3]; rfl)), (by first | exact sl5 | (rw [sl5]; go_num) | (rw [sl5]; rfl)), rfl, rfl, OldB.refl _ _, XW39b, by omega, by omega, rfl, hid (fun _ _ _ _ => rfl), Hst⟩ ?_; clear sl3 sl5; rintro kJ s17 w18 ⟨q, p, m2, rfl, sl3, sl5, e0, e4, hb, mg', hpq, hqm, hm2, hun, hst⟩
     replace sl0 := e0.trans sl0; clear e0; replace sl4 := e4.trans sl4; clear e4; have hoJ := hb; clear qg; replace kg := mg'; clear HL8; replace HB := mO HB hb; clear hb; have qg := kg.1; clear mg'; have HoJ := hid hoJ; clear hoJ; have HL20 := HoJ; clear HoJ
     refine nr ?_; intros
     refine P4 ?_
     refine lx [32] ?_; clear sl0 sl3 sl4 sl5; intro _ sl0 sl3 sl4 sl5 sl32; refine ln ?_; intros
     refine cond_E sl32 (by decide) ?_ ?_ <;> (clear sl32; intro h32 sl32)
     ·skip
      have hq : q + 1 < l.length - (m + 1) := by simp at h32; omega
      have hq1 : m + 1 + (q + 1) < m2.length := by omega
      have hq2 : m + 1 + q < m2.length := by omega
      have hq1l : m + 1 + q + 1 < l.length := by omega
      have hq1' : (q : Int) + 1 < ((l.length - (m + 1) : Nat) : Int) := by omega
      have hq0 : (0 : Int) ≤ (q : Int) + 1 := by omega
      have hq3 : q < l.length - (m + 1) := by omega
      have e2 : ((q : Int) + 1).toNat = q + 1 := by omega
      obtain ⟨y2, hy2⟩ : ∃ z, l[m + 1 + q + 1] = z := ⟨_, rfl⟩; obtain ⟨x2, hx2⟩ : ∃ z, l[m + 1 + q] = z := ⟨_, rfl⟩; obtain ⟨c0, c1⟩ := cell_unt kg (i := m + 1 + (q + 1)) (x := y2) (by rw [List.getElem?_eq_getElem hq1, hun.out _ hq1 (show m + 1 + (q + 1) < l.length by omega) (by omega)]; exact congrArg some hy2); obtain ⟨d0, d1⟩ := cell_unt kg (i := m + 1 + q) (x := x2) (by rw [List.getElem?_eq_getElem hq2, hun.out _ hq2 (show m + 1 + q < l.length by omega) (by omega)]; exact congrArg some hx2); have Hy2 := hid hy2; have Hx2 := hid hx2; clear hy2 hx2; rw [show (m + 1 + (q + 1)) * 2 = (m + 1) * 2 + (q + 1) * 2 from by rw [Nat.add_mul]] at c0 c1; rw [show (m + 1 + q) * 2 = (m + 1) * 2 + q * 2 from by rw [Nat.add_mul]] at d0 d1; have w5 : IntKind.i64.wrap ((q : Int) + 1 - 1) = (q : Int) := (IntWalk.i64_in _ (by omega)).trans (by omega); have w6 : IntKind.i64.wrap (q : Int) = (q : Int) := IntWalk.i64_in _ (by omega)
      have w7 : IntKind.i64.wrap ((q : Int) + 1 + 1) = (q : Int) + 1 + 1 := IntWalk.i64_in _ (by omega); have w8 : IntKind.i64.wrap ((p : Int) + 1 + 1) = (p : Int) + 1 + 1 := IntWalk.i64_in _ (by omega)
      have hp1 : p + 1 < l.length := by omega
      have hp1' : (p : Int) + 1 < l.length := by omega
      have e3 : ((p : Int) + 1).toNat = p + 1 := by omega
      refine zx ?_; intros
      refine rgQ 9 [?_,?_,?_,?_,?_,?_,?_,?_,?_] ?walk31 ?dep31
      case walk31 =>
       iterate 9 refine rq ?_
       refine walkR_nil (fun X hX w22 hwz hcz => ?_); clear hX hcz
       (try clear X)
       skip; have hb := hwz.unDrew; clear hwz; clear qg; revert HB; revert HL20; revert kg; refine uO hb ?_; clear hb; intro kg qg HL20 HB; refine listF_step rfl (fun K' hK => ?_); unfold opF; go_simp
       suffices hs : K' (.bool (decide (¬ (y2.mach = x2.mach ∧ y2.unit.toList = x2.unit.toList)))) w22 by (by_cases q0 : y2.mach = x2.mach <;> by_cases q1 : y2.unit.toList = x2.unit.toList <;> simp [q0, q1] at hs ⊢ <;> exact hs)
       refine hK _ _ ?_; clear hK K'; clear sl32; refine lx [44] ?_; clear sl0 sl3 sl4 sl5; intro _ sl0 sl3 sl4 sl5 sl44; refine ln ?_; intros
       refine cond_E sl44 (by decide) ?_ ?_ <;> (clear sl44; intro h44 sl44)
       ·skip
        have Hne2 := hid (show ¬ l[m + 1 + q] = l[m + 1 + q + 1] from fun e => by rw [Hx2.out, Hy2.out] at e; exact of_decide_eq_true h44 ((eq_unt _ _).1 e.symm)); have Hco := hid (show compL (l.take (m + 1 + (q + 1) + 1)) = compL (l.take (m + 1 + q + 1)) ++ [y2] by rw [show m + 1 + (q + 1) + 1 = m + 1 + q + 2 by omega, comp_take hq1l, if_neg Hne2.out, Hy2.out]); obtain ⟨c0, c1⟩ := cell_unt kg (i := m + 1 + (q + 1)) (x := y2) (by rw [List.getElem?_eq_getElem hq1, hun.out _ hq1 (show m + 1 + (q + 1) < l.length by omega) (by omega)]; exact congrArg some Hy2.out); rw [show (m + 1 + (q + 1)) * 2 = (m + 1) * 2 + (q + 1) * 2 from by rw [Nat.add_mul]] at c0 c1; obtain ⟨z3, hz3⟩ : ∃ z, m2[p + 1]? = some z := ⟨_, List.getElem?_eq_getElem (by omega)⟩; obtain ⟨f0, f1⟩ := cell_unt kg (i := p + 1) (x := z3) hz3; clear hz3
        refine nr ?_; intros
        refine P7 ?_
        have zg := kg.2.2; refine pl ?_; refine listF_absw ?_; intro w27 hw'; have kg' := cells_of hw' (Cells.set (Cells.set (kg))); rw [set_unt y2] at kg'; have hb : OldB [g] w22 w27 := oldset hw'; clear hw'; clear zg; clear qg; replace kg := kg'; revert HB; revert HL20; refine zO hb ?_; clear hb; intro HL20 HB; have qg := kg.1; clear kg'; clear sl44; refine lx [] ?_; clear sl0 sl3 sl4 sl5; intro _ sl0 sl3 sl4 sl5; refine lr ?_; intros
        refine P3 ?_
        clear sl3; refine lx [3] ?_; clear sl0 sl4 sl5; intro _ sl0 sl4 sl5 sl3; refine lr ?_; intros
        refine P3 ?_
        clear sl5; refine lx [5] ?_; clear sl0 sl3 sl4; intro _ sl0 sl3 sl4 sl5; refine ln ?_; intros
        refine ⟨_, _, rfl, ?_, q + 1, p + 1, (m2.set (p + 1) y2), rfl, (rL sl3), (rL sl5), (sl0.trans hc1_0.out.symm), (sl4.trans hc1_4.out.symm), HL20.out, XW39b, by omega, by omega, (by rw [List.length_set]; exact hm2), hid (fun j h1 h2 h3 => by rw [List.getElem_set_ne (by omega)]; exact hun.out j _ h2 (by omega)), hid (by rw [Hco.out, ← hst.out, List.take_succ_eq_append_getElem (by rw [List.length_set]; omega), List.getElem_set_self, List.take_set_of_le (Nat.le_refl _)])⟩
        omega
       ·skip
        have Hne2 := hid (show l[m + 1 + q] = l[m + 1 + q + 1] by rw [Hx2.out, Hy2.out]; exact ((eq_unt _ _).2 (Decidable.not_not.1 (of_decide_eq_false h44))).symm); have Hco := hid (show compL (l.take (m + 1 + (q + 1) + 1)) = compL (l.take (m + 1 + q + 1)) by rw [show m + 1 + (q + 1) + 1 = m + 1 + q + 2 by omega, comp_take hq1l, if_pos Hne2.out])
        refine nr ?_; intros
        refine P3 ?_
        clear sl5 sl44; refine lx [5] ?_; clear sl0 sl3 sl4; intro _ sl0 sl3 sl4 sl5; refine ln ?_; intros
        refine ⟨_, _, rfl, ?_, q + 1, p, m2, rfl, (rL sl3), (rL sl5), (sl0.trans hc1_0.out.symm), (sl4.trans hc1_4.out.symm), HL20.out, XW39b, by omega, by omega, hm2, hid (fun j h1 h2 h3 => hun.out j h1 h2 (by omega)), hid (by rw [Hco.out]; exact hst.out)⟩
        omega
      case dep31 => exact dA
     ·skip
      have hp1 : p + 1 < l.length := by simp at h32; omega
      have hqe : m + 1 + q + 1 = l.length := by simp at h32; omega
      have e3 : ((p : Int) + 1).toNat = p + 1 := by omega
      have hpc : p + 1 < cap := by omega
      have hpc' : (p : Int) + 1 ≤ (cap : Int) := by omega
      have hp3 : (0 : Int) ≤ (p : Int) + 1 := by omega
      have hp2' : (p : Int) + 1 ≤ (l.length : Int) := by omega
      have hcap5 : ¬ cap = p + 1 := by omega
      have Hfin := hid (show m2.take (p + 1) = compL l by rw [hst.out, hqe, List.take_length]); have Hfl := hid (show (compL l).length = p + 1 by rw [← Hfin.out, List.length_take]; omega)
      refine zx ?_; intros
      clear HL20; clear hc1_0 hc1_4; refine region_F ?_
      refine P3 ?_
      have hclr := fun ty => run_clear_row (P := Tryz.prog) w18 40 69 ty (.agg #[.int .i64 0, .string ByteArray.empty]) Tryz.underlying40 hzv (by intro v hv; simp [Value.cells] at hv; rcases hv with hv | hv <;> subst hv <;> rfl) g ((p + 1) * 2) (l.length - (p + 1)) (cap - (p + 1)) (by omega) (fun j hj => by have hj2 : (p + 1) * 2 + j < m2.length * 2 := (by have : j < (l.length - (p + 1)) * 2 := hj; omega); have h9 : ((m2.flatMap Unt.cs)[(p + 1) * 2 + j]?).isSome = true := (by rw [Option.isSome_iff_exists]; exact ⟨_, List.getElem?_eq_getElem (by rw [flat_len (m := 2) (fun _ => rfl)]; exact hj2)⟩); obtain ⟨v, hv⟩ := Option.isSome_iff_exists.1 h9; rw [kg.2.1 _ v hv]; rfl) (fun j hj => kg.2.2 _)
      refine pl ?_; clear hclr; refine listF_absw (fun w33 hw' => ?_)
      have hb : OldB [g] w18 w33 := by rw [hw']; exact oldb_setCells (by simp) _ _ (OldB.refl _ _)
      have kg2 : Cells w33 g ((compL l).flatMap Unt.cs) := by rw [hw', ← Hfin.out, flat_take (m := 2) (fun _ => rfl)]; exact cells_behind _ _ (by rw [List.length_take]; omega) (kg.take _)
      clear hw'; clear qg; replace kg := kg2; replace HB := mO HB hb; clear hb; have qg := kg.1; clear sl4 sl5 sl32; refine lx [] ?_; clear sl0 sl3; intro _ sl0 sl3; refine lr ?_; intros
      refine P4 ?_
      clear sl0 sl3; refine lx [2] ?_; intro _ sl2; refine ln ?_; intros
      refine XW39c ?_; exact ⟨_, by rw [Hfl.out], kg, HB.out⟩
    ·skip
     have Hne := hid (show ¬ l[m] = l[m + 1] from fun e => by rw [Hx.out, Hy.out] at e; exact of_decide_eq_false h25 ((eq_unt _ _).1 e.symm))
     refine nr ?_; intros
     refine P3 ?_
     clear sl3 sl25; refine lx [3] ?_; clear sl0; intro _ sl0 sl3; refine ln ?_; intros
     refine ⟨_, _, rfl, ?_, m + 1, rfl, (rL sl3), (sl0.trans hc0_0.out.symm), HL8.out, by omega, hid (fun j h1 h2 => by rcases Nat.lt_or_ge j m with h | h <;> first | exact hnd.out j h1 h | (have e : j = m := (by omega); subst e; exact Hne.out))⟩
     omega
   case dep30 => exact dA
  ·skip
   have Hd := hid (show compL l = l from comp_all fun j h => hnd.out j h (by simp at h13; omega))
   refine zx ?_; intros
   clear HL8; clear hc0_0; refine region_F ?_; refine P2 ?_; clear sl0 sl3 sl13; refine lx [2] ?_; intro _ sl2; refine ln ?_; intros
   refine XW39c ?_; exact ⟨_, by rw [Hd.out], by rw [Hd.out]; exact kg, HB.out⟩

theorem cell_ent {w : World} {g : Nat} {l : List Ent} (h : Cells w g (l.flatMap Ent.cs)) {i : Nat} {x : Ent} (hi : l[i]? = some x) : w.cell? ⟨g, i * 4, none⟩ = some (.int .i64 x.num) ∧ w.cell? ⟨g, i * 4 + 1, none⟩ = some (.int .i64 x.mach) ∧ w.cell? ⟨g, i * 4 + 2, none⟩ = some (.int .i64 x.day) ∧ w.cell? ⟨g, i * 4 + 3, none⟩ = some (.string x.unit) := by
  have k := fun j v (hj : (Ent.cs x)[j]? = some v) => h.2.1 (i * 4 + j) v (flat_get Ent.cs 4 (fun _ => rfl) l i x hi j v hj)
  exact ⟨k 0 _ rfl, k 1 _ rfl, k 2 _ rfl, k 3 _ rfl⟩
theorem set_ent (x : Ent) : ∀ (l : List Ent) (i : Nat), (((((l.flatMap Ent.cs).set (i * 4) (.int .i64 x.num)).set (i * 4 + 1) (.int .i64 x.mach)).set (i * 4 + 2) (.int .i64 x.day)).set (i * 4 + 3) (.string x.unit)) = (l.set i x).flatMap Ent.cs
  | [], i => by simp
  | y :: l, 0 => by simp [Ent.cs]
  | y :: l, i + 1 => by
    have ih := set_ent x l i
    have e : (i + 1) * 4 = i * 4 + 1 + 1 + 1 + 1 := by omega
    have e2 : (y :: l).set (i + 1) x = y :: l.set i x := rfl; rw [e2, List.flatMap_cons, List.flatMap_cons, ← ih, e]
    rfl
theorem eq_ent (x y : Ent) : x = y ↔ x.num = y.num ∧ x.mach = y.mach ∧ x.day = y.day ∧ x.unit.toList = y.unit.toList := by
  constructor
  · intro h; subst h; simp
  · intro h; cases x; cases y; simp at h ⊢; obtain ⟨h0, h1, h2, h3⟩ := h; exact ⟨h0, h1, h2, ba_inj h3⟩
theorem XW39e {A B1 : Prop} (hX1 : B1) (e : B1 → A := by exact ret_F _ (res_t Tryz.results93 ((getD_F (by decide)).trans sl2))) : A := e hX1
theorem compact_ent (g cap : Nat) (l : List Ent) (w : World) (hg : Cells w g (l.flatMap Ent.cs)) (hcap : l.length ≤ cap) (hll : l.length ≤ 1000) :
    Calls Tryz.prog 93 #[.slice (some ⟨g, 0, none⟩) l.length cap] w (fun e w' => ∃ c, e = .returned (.slice (some ⟨g, 0, none⟩) (compL l).length c) ∧ Cells w' g ((compL l).flatMap Ent.cs) ∧ OldB [g] w w') := by
 obtain ⟨i1, hi1, hz1, hy1, hx1⟩ := info_parts info_ent
 have hzv : ∀ w, (zeroValue 65).run Tryz.prog w = .ok (.agg #[.int .i64 0, .int .i64 0, .int .i64 0, .string ByteArray.empty]) w := fun w => by simp [zeroValue, typeInfo, hi1, hz1, go_sem]
 have kg := hg
 refine enter_F Tryz.func93 rfl Tryz.ntmps93 (by simp) ?_
 intro s0 hs; have sl0 : s0 0 = .slice (some ⟨g, 0, none⟩) l.length cap := hs 0 (by simp); clear hs; have HB := hid (OldB.refl [g] w); have qg := kg.1
 refine nr ?_; intros; refine pl ?_; refine lx [] ?_; clear sl0; intro _ sl0; refine lr ?_; intros
 refine P3 ?_
 refine lx [8] ?_; clear sl0; intro _ sl0 sl8; refine ln ?_; intros
 refine cond_E sl8 (by decide) ?_ ?_ <;> (clear sl8; intro h8 sl8)
 ·skip
  have Hd := hid (show compL l = l from comp_all fun j h => by simp at h8; omega)
  refine nr ?_; intros; refine P2 ?_; clear sl0 sl8; refine lx [2] ?_; intro _ sl2; refine ln ?_; intros
  refine XW39e ?_; exact ⟨_, by rw [Hd.out], by rw [Hd.out]; exact kg, HB.out⟩
 ·skip
  have hl2 : 2 ≤ l.length := by simp at h8; omega
  refine nr ?_; intros; refine pl ?_; clear sl8; refine lx [3] ?_; clear sl0; intro s4 sl0 sl3; refine ln ?_; intros
  have hc0_0 := hid sl0; refine XW39d ?_; clear sl3; rintro kJ s5 w6 ⟨m, rfl, sl3, e0, hb, hml, hnd⟩; replace sl0 := e0.trans sl0; clear e0; have hoJ := hb; clear qg; revert HB; revert kg; refine uO hb ?_; clear hb; intro kg qg HB; have HoJ := hid hoJ; clear hoJ; have HL8 := HoJ; clear HoJ
  refine nr ?_; intros
  refine P4 ?_
  refine lx [13] ?_; clear sl0 sl3; intro _ sl0 sl3 sl13; refine ln ?_; intros
  refine cond_E sl13 (by decide) ?_ ?_ <;> (clear sl13; intro h13 sl13)
  ·skip
   have hlt : m + 1 < l.length := by simp at h13; omega
   have hlt2 : m < l.length := by omega
   have hlt' : (m : Int) + 1 < l.length := by omega
   have hlt2' : (m : Int) < l.length := by omega
   have e1 : ((m : Int) + 1).toNat = m + 1 := by omega
   obtain ⟨y, hy⟩ : ∃ z, l[m + 1] = z := ⟨_, rfl⟩; obtain ⟨x, hx⟩ : ∃ z, l[m] = z := ⟨_, rfl⟩; obtain ⟨c0, c1, c2, c3⟩ := cell_ent kg (i := m + 1) (x := y) (by rw [List.getElem?_eq_getElem hlt, hy]); obtain ⟨d0, d1, d2, d3⟩ := cell_ent kg (i := m) (x := x) (by rw [List.getElem?_eq_getElem hlt2, hx]); have Hy := hid hy; have Hx := hid hx; clear hy hx; have w1 : IntKind.i64.wrap ((m : Int) + 1 - 1) = (m : Int) := (IntWalk.i64_in _ (by omega)).trans (by omega); have w2 : IntKind.i64.wrap (m : Int) = (m : Int) := IntWalk.i64_in _ (by omega); have w3 : IntKind.i64.wrap ((m : Int) + 1 + 1) = (m : Int) + 1 + 1 := IntWalk.i64_in _ (by omega)
   refine zx ?_; intros
   refine rgQ 9 [?_,?_,?_,?_,?_,?_,?_,?_,?_] ?walk32 ?dep32
   case walk32 =>
    iterate 9 refine rq ?_
    refine walkR_nil (fun X hX w10 hwz hcz => ?_); clear hX hcz
    (try clear X)
    skip; have hb := hwz.unDrew; clear hwz; clear qg; revert HB; revert HL8; revert kg; refine uO hb ?_; clear hb; intro kg qg HL8 HB; refine listF_step rfl (fun K' hK => ?_); unfold opF; go_simp
    suffices hs : K' (.bool (decide ((y.num = x.num ∧ y.mach = x.mach ∧ y.day = x.day ∧ y.unit.toList = x.unit.toList)))) w10 by (by_cases q0 : y.num = x.num <;> by_cases q1 : y.mach = x.mach <;> by_cases q2 : y.day = x.day <;> by_cases q3 : y.unit.toList = x.unit.toList <;> simp [q0, q1, q2, q3] at hs ⊢ <;> exact hs)
    refine hK _ _ ?_; clear hK K'; clear sl13; refine lx [25] ?_; clear sl0 sl3; intro _ sl0 sl3 sl25; refine ln ?_; intros
    refine cond_E sl25 (by decide) ?_ ?_ <;> (clear sl25; intro h25 sl25)
    ·skip
     have hyx : y = x := by rw [eq_ent]; exact of_decide_eq_true h25
     have Hdu := hid (show l[m] = l[m + 1] by rw [Hx.out, Hy.out, hyx]); clear hyx
     have hcap2 : m + 1 < cap := by omega
     have hcap3 : ¬ cap = m + 1 := by omega
     have hcap4 : ¬ m + 1 = cap := by omega
     have hm1 : (0 : Int) ≤ (m : Int) + 1 := by omega
     have hm2' : (m : Int) + 1 ≤ (l.length : Int) := by omega
     have Hst := hid (show l.take (m + 1) = compL (l.take (m + 1 + 0 + 1)) by rw [Nat.add_zero, comp_take hlt, if_pos Hdu.out, comp_nodup (by omega) (fun j h1 h2 => hnd.out j h1 h2)])
     refine nr ?_; intros
     refine P4 ?_
     clear sl25; refine lx [4] ?_; clear sl0 sl3; intro _ sl0 sl3 sl4; refine lr ?_; intros; refine pl ?_; refine lx [5] ?_; clear sl0 sl3 sl4; intro s16 sl0 sl3 sl4 sl5; refine ln ?_; intros
     have hc1_0 := hid sl0; have hc1_4 := hid sl4; refine loop_F (n := 61) (fun kJ sJ wJ => ∃ (q p : Nat) (m2 : List Ent), kJ = l.length - q ∧ sJ 3 = .int .i64 ((p : Int) + 1) ∧ sJ 5 = .int .i64 ((q : Int) + 1) ∧ sJ 0 = s16 0 ∧ sJ 4 = s16 4 ∧ OldB [g] w10 wJ ∧ Cells wJ g (m2.flatMap Ent.cs) ∧ p ≤ m + q ∧ m + 1 + q + 1 ≤ l.length ∧ m2.length = l.length ∧ (Hid (∀ j (h1 : j < m2.length) (h2 : j < l.length), m + 1 + q ≤ j → m2[j] = l[j])) ∧ Hid (m2.take (p + 1) = compL (l.take (m + 1 + q + 1)))) ⟨0, m, l, rfl, (by first | exact sl3 | (rw [sl3]; go_num) | (rw [sl3]; rfl)), (by first | exact sl5 | (rw [sl5]; go_num) | (rw [sl5]; rfl)), rfl, rfl, OldB.refl _ _, XW39b, by omega, by omega, rfl, hid (fun _ _ _ _ => rfl), Hst⟩ ?_; clear sl3 sl5; rintro kJ s17 w18 ⟨q, p, m2, rfl, sl3, sl5, e0, e4, hb, mg', hpq, hqm, hm2, hun, hst⟩
     replace sl0 := e0.trans sl0; clear e0; replace sl4 := e4.trans sl4; clear e4; have hoJ := hb; clear qg; replace kg := mg'; clear HL8; replace HB := mO HB hb; clear hb; have qg := kg.1; clear mg'; have HoJ := hid hoJ; clear hoJ; have HL20 := HoJ; clear HoJ
     refine nr ?_; intros
     refine P4 ?_
     refine lx [32] ?_; clear sl0 sl3 sl4 sl5; intro _ sl0 sl3 sl4 sl5 sl32; refine ln ?_; intros
     refine cond_E sl32 (by decide) ?_ ?_ <;> (clear sl32; intro h32 sl32)
     ·skip
      have hq : q + 1 < l.length - (m + 1) := by simp at h32; omega
      have hq1 : m + 1 + (q + 1) < m2.length := by omega
      have hq2 : m + 1 + q < m2.length := by omega
      have hq1l : m + 1 + q + 1 < l.length := by omega
      have hq1' : (q : Int) + 1 < ((l.length - (m + 1) : Nat) : Int) := by omega
      have hq0 : (0 : Int) ≤ (q : Int) + 1 := by omega
      have hq3 : q < l.length - (m + 1) := by omega
      have e2 : ((q : Int) + 1).toNat = q + 1 := by omega
      obtain ⟨y2, hy2⟩ : ∃ z, l[m + 1 + q + 1] = z := ⟨_, rfl⟩; obtain ⟨x2, hx2⟩ : ∃ z, l[m + 1 + q] = z := ⟨_, rfl⟩; obtain ⟨c0, c1, c2, c3⟩ := cell_ent kg (i := m + 1 + (q + 1)) (x := y2) (by rw [List.getElem?_eq_getElem hq1, hun.out _ hq1 (show m + 1 + (q + 1) < l.length by omega) (by omega)]; exact congrArg some hy2); obtain ⟨d0, d1, d2, d3⟩ := cell_ent kg (i := m + 1 + q) (x := x2) (by rw [List.getElem?_eq_getElem hq2, hun.out _ hq2 (show m + 1 + q < l.length by omega) (by omega)]; exact congrArg some hx2); have Hy2 := hid hy2; have Hx2 := hid hx2; clear hy2 hx2; rw [show (m + 1 + (q + 1)) * 4 = (m + 1) * 4 + (q + 1) * 4 from by rw [Nat.add_mul]] at c0 c1 c2 c3; rw [show (m + 1 + q) * 4 = (m + 1) * 4 + q * 4 from by rw [Nat.add_mul]] at d0 d1 d2 d3; have w5 : IntKind.i64.wrap ((q : Int) + 1 - 1) = (q : Int) := (IntWalk.i64_in _ (by omega)).trans (by omega); have w6 : IntKind.i64.wrap (q : Int) = (q : Int) := IntWalk.i64_in _ (by omega)
      have w7 : IntKind.i64.wrap ((q : Int) + 1 + 1) = (q : Int) + 1 + 1 := IntWalk.i64_in _ (by omega); have w8 : IntKind.i64.wrap ((p : Int) + 1 + 1) = (p : Int) + 1 + 1 := IntWalk.i64_in _ (by omega)
      have hp1 : p + 1 < l.length := by omega
      have hp1' : (p : Int) + 1 < l.length := by omega
      have e3 : ((p : Int) + 1).toNat = p + 1 := by omega
      refine zx ?_; intros
      refine rgQ 9 [?_,?_,?_,?_,?_,?_,?_,?_,?_] ?walk33 ?dep33
      case walk33 =>
       iterate 9 refine rq ?_
       refine walkR_nil (fun X hX w22 hwz hcz => ?_); clear hX hcz
       (try clear X)
       skip; have hb := hwz.unDrew; clear hwz; clear qg; revert HB; revert HL20; revert kg; refine uO hb ?_; clear hb; intro kg qg HL20 HB; refine listF_step rfl (fun K' hK => ?_); unfold opF; go_simp
       suffices hs : K' (.bool (decide (¬ (y2.num = x2.num ∧ y2.mach = x2.mach ∧ y2.day = x2.day ∧ y2.unit.toList = x2.unit.toList)))) w22 by (by_cases q0 : y2.num = x2.num <;> by_cases q1 : y2.mach = x2.mach <;> by_cases q2 : y2.day = x2.day <;> by_cases q3 : y2.unit.toList = x2.unit.toList <;> simp [q0, q1, q2, q3] at hs ⊢ <;> exact hs)
       refine hK _ _ ?_; clear hK K'; clear sl32; refine lx [44] ?_; clear sl0 sl3 sl4 sl5; intro _ sl0 sl3 sl4 sl5 sl44; refine ln ?_; intros
       refine cond_E sl44 (by decide) ?_ ?_ <;> (clear sl44; intro h44 sl44)
       ·skip
        have Hne2 := hid (show ¬ l[m + 1 + q] = l[m + 1 + q + 1] from fun e => by rw [Hx2.out, Hy2.out] at e; exact of_decide_eq_true h44 ((eq_ent _ _).1 e.symm)); have Hco := hid (show compL (l.take (m + 1 + (q + 1) + 1)) = compL (l.take (m + 1 + q + 1)) ++ [y2] by rw [show m + 1 + (q + 1) + 1 = m + 1 + q + 2 by omega, comp_take hq1l, if_neg Hne2.out, Hy2.out]); obtain ⟨c0, c1, c2, c3⟩ := cell_ent kg (i := m + 1 + (q + 1)) (x := y2) (by rw [List.getElem?_eq_getElem hq1, hun.out _ hq1 (show m + 1 + (q + 1) < l.length by omega) (by omega)]; exact congrArg some Hy2.out); rw [show (m + 1 + (q + 1)) * 4 = (m + 1) * 4 + (q + 1) * 4 from by rw [Nat.add_mul]] at c0 c1 c2 c3; obtain ⟨z3, hz3⟩ : ∃ z, m2[p + 1]? = some z := ⟨_, List.getElem?_eq_getElem (by omega)⟩; obtain ⟨f0, f1, f2, f3⟩ := cell_ent kg (i := p + 1) (x := z3) hz3; clear hz3
        refine nr ?_; intros
        refine P7 ?_
        have zg := kg.2.2; refine pl ?_; refine listF_absw ?_; intro w27 hw'; have kg' := cells_of hw' (Cells.set (Cells.set (Cells.set (Cells.set (kg))))); rw [set_ent y2] at kg'; have hb : OldB [g] w22 w27 := oldset hw'; clear hw'; clear zg; clear qg; replace kg := kg'; revert HB; revert HL20; refine zO hb ?_; clear hb; intro HL20 HB; have qg := kg.1; clear kg'; clear sl44; refine lx [] ?_; clear sl0 sl3 sl4 sl5; intro _ sl0 sl3 sl4 sl5; refine lr ?_; intros
        refine P3 ?_
        clear sl3; refine lx [3] ?_; clear sl0 sl4 sl5; intro _ sl0 sl4 sl5 sl3; refine lr ?_; intros
        refine P3 ?_
        clear sl5; refine lx [5] ?_; clear sl0 sl3 sl4; intro _ sl0 sl3 sl4 sl5; refine ln ?_; intros
        refine ⟨_, _, rfl, ?_, q + 1, p + 1, (m2.set (p + 1) y2), rfl, (rL sl3), (rL sl5), (sl0.trans hc1_0.out.symm), (sl4.trans hc1_4.out.symm), HL20.out, XW39b, by omega, by omega, (by rw [List.length_set]; exact hm2), hid (fun j h1 h2 h3 => by rw [List.getElem_set_ne (by omega)]; exact hun.out j _ h2 (by omega)), hid (by rw [Hco.out, ← hst.out, List.take_succ_eq_append_getElem (by rw [List.length_set]; omega), List.getElem_set_self, List.take_set_of_le (Nat.le_refl _)])⟩
        omega
       ·skip
        have Hne2 := hid (show l[m + 1 + q] = l[m + 1 + q + 1] by rw [Hx2.out, Hy2.out]; exact ((eq_ent _ _).2 (Decidable.not_not.1 (of_decide_eq_false h44))).symm); have Hco := hid (show compL (l.take (m + 1 + (q + 1) + 1)) = compL (l.take (m + 1 + q + 1)) by rw [show m + 1 + (q + 1) + 1 = m + 1 + q + 2 by omega, comp_take hq1l, if_pos Hne2.out])
        refine nr ?_; intros
        refine P3 ?_
        clear sl5 sl44; refine lx [5] ?_; clear sl0 sl3 sl4; intro _ sl0 sl3 sl4 sl5; refine ln ?_; intros
        refine ⟨_, _, rfl, ?_, q + 1, p, m2, rfl, (rL sl3), (rL sl5), (sl0.trans hc1_0.out.symm), (sl4.trans hc1_4.out.symm), HL20.out, XW39b, by omega, by omega, hm2, hid (fun j h1 h2 h3 => hun.out j h1 h2 (by omega)), hid (by rw [Hco.out]; exact hst.out)⟩
        omega
      case dep33 => exact dA
     ·skip
      have hp1 : p + 1 < l.length := by simp at h32; omega
      have hqe : m + 1 + q + 1 = l.length := by simp at h32; omega
      have e3 : ((p : Int) + 1).toNat = p + 1 := by omega
      have hpc : p + 1 < cap := by omega
      have hpc' : (p : Int) + 1 ≤ (cap : Int) := by omega
      have hp3 : (0 : Int) ≤ (p : Int) + 1 := by omega
      have hp2' : (p : Int) + 1 ≤ (l.length : Int) := by omega
      have hcap5 : ¬ cap = p + 1 := by omega
      have Hfin := hid (show m2.take (p + 1) = compL l by rw [hst.out, hqe, List.take_length]); have Hfl := hid (show (compL l).length = p + 1 by rw [← Hfin.out, List.length_take]; omega)
      refine zx ?_; intros
      clear HL20; clear hc1_0 hc1_4; refine region_F ?_
      refine P3 ?_
      have hclr := fun ty => run_clear_row (P := Tryz.prog) w18 36 65 ty (.agg #[.int .i64 0, .int .i64 0, .int .i64 0, .string ByteArray.empty]) Tryz.underlying36 hzv (by intro v hv; simp [Value.cells] at hv; rcases hv with hv | hv <;> subst hv <;> rfl) g ((p + 1) * 4) (l.length - (p + 1)) (cap - (p + 1)) (by omega) (fun j hj => by have hj2 : (p + 1) * 4 + j < m2.length * 4 := (by have : j < (l.length - (p + 1)) * 4 := hj; omega); have h9 : ((m2.flatMap Ent.cs)[(p + 1) * 4 + j]?).isSome = true := (by rw [Option.isSome_iff_exists]; exact ⟨_, List.getElem?_eq_getElem (by rw [flat_len (m := 4) (fun _ => rfl)]; exact hj2)⟩); obtain ⟨v, hv⟩ := Option.isSome_iff_exists.1 h9; rw [kg.2.1 _ v hv]; rfl) (fun j hj => kg.2.2 _)
      refine pl ?_; clear hclr; refine listF_absw (fun w33 hw' => ?_)
      have hb : OldB [g] w18 w33 := by rw [hw']; exact oldb_setCells (by simp) _ _ (OldB.refl _ _)
      have kg2 : Cells w33 g ((compL l).flatMap Ent.cs) := by rw [hw', ← Hfin.out, flat_take (m := 4) (fun _ => rfl)]; exact cells_behind _ _ (by rw [List.length_take]; omega) (kg.take _)
      clear hw'; clear qg; replace kg := kg2; replace HB := mO HB hb; clear hb; have qg := kg.1; clear sl4 sl5 sl32; refine lx [] ?_; clear sl0 sl3; intro _ sl0 sl3; refine lr ?_; intros
      refine P4 ?_
      clear sl0 sl3; refine lx [2] ?_; intro _ sl2; refine ln ?_; intros
      refine XW39e ?_; exact ⟨_, by rw [Hfl.out], kg, HB.out⟩
    ·skip
     have Hne := hid (show ¬ l[m] = l[m + 1] from fun e => by rw [Hx.out, Hy.out] at e; exact of_decide_eq_false h25 ((eq_ent _ _).1 e.symm))
     refine nr ?_; intros
     refine P3 ?_
     clear sl3 sl25; refine lx [3] ?_; clear sl0; intro _ sl0 sl3; refine ln ?_; intros
     refine ⟨_, _, rfl, ?_, m + 1, rfl, (rL sl3), (sl0.trans hc0_0.out.symm), HL8.out, by omega, hid (fun j h1 h2 => by rcases Nat.lt_or_ge j m with h | h <;> first | exact hnd.out j h1 h | (have e : j = m := (by omega); subst e; exact Hne.out))⟩
     omega
   case dep32 => exact dA
  ·skip
   have Hd := hid (show compL l = l from comp_all fun j h => hnd.out j h (by simp at h13; omega))
   refine zx ?_; intros
   clear HL8; clear hc0_0; refine region_F ?_; refine P2 ?_; clear sl0 sl3 sl13; refine lx [2] ?_; intro _ sl2; refine ln ?_; intros
   refine XW39e ?_; exact ⟨_, by rw [Hd.out], by rw [Hd.out]; exact kg, HB.out⟩

end Go.Proofs.YtleknidlgmmgbaaGreat
