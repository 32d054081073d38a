/- Clone of entries and units. -/
import Derived.Test.YtleknidlgmmgbaaGreattsT7
import Derived.Test.YtleknidlgmmgbaaGreattsW25
import Derived.Test.YtleknidlgmmgbaaGreattsCZ
set_option linter.all false
set_option maxRecDepth 100000
set_option maxHeartbeats 4000000
namespace Go.Proofs.YtleknidlgmmgbaaGreat

section
theorem days_append (a b : List Ent) (u : Unt) : daysOf (a ++ b) u = daysOf a u ++ daysOf b u := by unfold daysOf; rw [List.filter_append, List.map_append]
theorem days_cut (l : List Ent) (u : Unt) (i : Nat) : daysOf l u = daysOf (l.take i) u ++ daysOf (l.drop i) u := by rw [← days_append, List.take_append_drop]
theorem days_cons_yes {x : Ent} {l : List Ent} {u : Unt} (h : x.u = u) : daysOf (x :: l) u = x.day :: daysOf l u := by unfold daysOf; rw [List.filter_cons_of_pos (by simpa using h)]; rfl
theorem days_cons_no {x : Ent} {l : List Ent} {u : Unt} (h : ¬ x.u = u) : daysOf (x :: l) u = daysOf l u := by unfold daysOf; rw [List.filter_cons_of_neg (by simpa using h)]
theorem days_mem {l : List Ent} {u : Unt} {d : Int} (h : d ∈ daysOf l u) : ∃ x ∈ l, x.u = u ∧ x.day = d := by
  unfold daysOf at h
  obtain ⟨x, hx, rfl⟩ := List.mem_map.1 h
  obtain ⟨h1, h2⟩ := List.mem_filter.1 hx
  exact ⟨x, h1, by simpa using h2, rfl⟩
theorem days_sorted {u : Unt} : ∀ {l : List Ent}, l.Pairwise (fun a b => a.day ≤ b.day) → (daysOf l u).Pairwise (fun a b => a ≤ b)
  | [], _ => List.Pairwise.nil
  | x :: l, h => by
    have h1 := List.pairwise_cons.1 h
    by_cases e : x.u = u
    · rw [days_cons_yes e, List.pairwise_cons]
      refine ⟨fun d hd => ?_, days_sorted h1.2⟩
      obtain ⟨y, hy, _, rfl⟩ := days_mem hd
      exact h1.1 y hy
    · rw [days_cons_no e]; exact days_sorted h1.2
/-- where the q-th of a unit's days stands -/
theorem days_at {u : Unt} : ∀ {l : List Ent} {q : Nat} (hq : q < (daysOf l u).length), ∃ i, ∃ h : i < l.length, l[i].u = u ∧ daysOf (l.take i) u = (daysOf l u).take q ∧ l[i].day = (daysOf l u)[q]
  | [], q, hq => by simp [daysOf] at hq
  | x :: l, q, hq => by
    by_cases e : x.u = u
    · cases q with
      | zero => exact ⟨0, by simp, e, by simp [daysOf], by simp [days_cons_yes e]⟩
      | succ q =>
        rw [days_cons_yes e] at hq
        obtain ⟨i, h1, h2, h3, h4⟩ := days_at (l := l) (q := q) (by simpa using hq)
        refine ⟨i + 1, by simpa using h1, h2, ?_, ?_⟩
        · rw [List.take_succ_cons, days_cons_yes e, days_cons_yes e, List.take_succ_cons, h3]
        · simp only [List.getElem_cons_succ, days_cons_yes e]; exact h4
    · rw [days_cons_no e] at hq
      obtain ⟨i, h1, h2, h3, h4⟩ := days_at (l := l) (q := q) hq
      refine ⟨i + 1, by simpa using h1, h2, ?_, ?_⟩
      · rw [List.take_succ_cons, days_cons_no e, days_cons_no e, h3]
      · simp only [List.getElem_cons_succ, days_cons_no e]; exact h4
theorem oft_ge {u : Unt} {days : Int} {m : Nat} (hm : 1 ≤ m) {l0 : List Ent} : ∀ {l : List Ent}, m ≤ oftU l0 u days l ↔ ∃ i, ∃ h : i < l.length, m ≤ winC (l.drop i) u days l[i].day
  | [] => ⟨fun h => by simp [oftU] at h; omega, fun ⟨i, h, _⟩ => by simp at h⟩
  | x :: l => by
    unfold oftU
    have ih := oft_ge (u := u) (days := days) (m := m) hm (l0 := l0) (l := l)
    constructor
    · intro h
      by_cases h1 : m ≤ winC (x :: l) u days x.day
      · exact ⟨0, by simp, h1⟩
      · obtain ⟨i, h2, h3⟩ := ih.1 (by omega)
        exact ⟨i + 1, by simpa using h2, by simpa using h3⟩
    · rintro ⟨i, h1, h2⟩
      cases i with
      | zero => have h2 : m ≤ winC (x :: l) u days x.day := h2; omega
      | succ i =>
        have := ih.2 ⟨i, by simpa using h1, by simpa using h2⟩
        omega
theorem count_first {c : Int} : ∀ {E : List Int} {m : Nat} (_ : E.Pairwise (fun a b => a ≤ b)) (_ : 1 ≤ m), m ≤ E.countP (fun x => decide (x < c)) ↔ ∃ h : m - 1 < E.length, E[m - 1] < c
  | [], m, _, hm => ⟨fun h => by simp at h; omega, fun ⟨h, _⟩ => by simp at h⟩
  | e :: E, m, hs, hm => by
    have h1 := List.pairwise_cons.1 hs
    rw [List.countP_cons]
    cases m with
    | zero => omega
    | succ m =>
      rw [show m + 1 - 1 = m by omega]
      by_cases hc : e < c
      · rw [if_pos (by simpa using hc)]
        cases m with
        | zero => exact ⟨fun _ => ⟨by simp, hc⟩, fun _ => by omega⟩
        | succ m =>
          have ih := count_first (c := c) (E := E) (m := m + 1) h1.2 (by omega)
          constructor
          · intro h
            obtain ⟨g1, g2⟩ := ih.1 (by omega)
            exact ⟨by simp at g1 ⊢; omega, by simpa using g2⟩
          · rintro ⟨g1, g2⟩
            have := ih.2 ⟨by simp at g1 ⊢; omega, by simpa using g2⟩
            omega
      · rw [if_neg (by simpa using hc)]
        have h0 : E.countP (fun x => decide (x < c)) = 0 := by
          rw [List.countP_eq_zero]
          intro x hx
          have := h1.1 x hx
          simp; omega
        rw [h0]
        constructor
        · intro h; omega
        · rintro ⟨g1, g2⟩
          exfalso
          have : e ≤ (e :: E)[m] := by
            cases m with
            | zero => exact Int.le_refl _
            | succ m => exact h1.1 _ (List.getElem_mem (by simpa using g1))
          omega
/-- the condition under which the program takes the j-th entry's unit -/
def pC (l : List Ent) (days : Int) (many j : Nat) : Bool :=
  let D := daysOf (l.take (j + 1)) (l.getD j default).u
  decide (many ≤ D.length) && decide ((l.getD j default).day - D.getD (D.length - many) 0 < days)
def pU (l : List Ent) (days : Int) (many : Nat) : Nat → List Unt
  | 0 => []
  | j + 1 => if pC l days many j = true then pU l days many j ++ [(l.getD j default).u] else pU l days many j
theorem pU_mem {l : List Ent} {days : Int} {many : Nat} {u : Unt} : ∀ {n : Nat}, u ∈ pU l days many n ↔ ∃ j, j < n ∧ (l.getD j default).u = u ∧ pC l days many j = true
  | 0 => by simp [pU]
  | n + 1 => by
    have ih := pU_mem (l := l) (days := days) (many := many) (u := u) (n := n)
    unfold pU
    split
    · rename_i hc
      rw [List.mem_append, List.mem_singleton, ih]
      constructor
      · rintro (⟨j, h1, h2⟩ | h)
        · exact ⟨j, by omega, h2⟩
        · exact ⟨n, by omega, h.symm, hc⟩
      · rintro ⟨j, h1, h2, h3⟩
        rcases Nat.lt_or_ge j n with g | g
        · exact .inl ⟨j, g, h2, h3⟩
        · have : j = n := by omega
          subst this; exact .inr h2.symm
    · rename_i hc
      rw [ih]
      constructor
      · rintro ⟨j, h1, h2⟩; exact ⟨j, by omega, h2⟩
      · rintro ⟨j, h1, h2, h3⟩
        rcases Nat.lt_or_ge j n with g | g
        · exact ⟨j, g, h2, h3⟩
        · have : j = n := by omega
          subst this; exact absurd h3 hc
theorem getDE {l : List Ent} {j : Nat} (h : j < l.length) : l.getD j default = l[j] := by rw [List.getD_eq_getElem?_getD, List.getElem?_eq_getElem h]; rfl
/-- in terms of the unit's days -/
theorem pU_days {l : List Ent} {days : Int} {many : Nat} (hm : 1 ≤ many) {u : Unt} : u ∈ pU l days many l.length ↔ ∃ p, ∃ h : p + many - 1 < (daysOf l u).length, ∃ h2 : p < (daysOf l u).length, (daysOf l u)[p + many - 1] - (daysOf l u)[p] < days := by
  rw [pU_mem]
  constructor
  · rintro ⟨j, hj, hu, hc⟩
    unfold pC at hc
    rw [getDE hj] at hu hc
    rw [hu] at hc
    simp only [Bool.and_eq_true, decide_eq_true_eq] at hc
    have e1 : daysOf (l.take (j + 1)) u = daysOf (l.take j) u ++ [l[j].day] := by
      rw [List.take_succ_eq_append_getElem hj, days_append, days_cons_yes hu]; rfl
    have e2 := days_cut l u (j + 1)
    obtain ⟨h1, h2⟩ := hc
    rw [e1] at h1 h2 e2
    simp only [List.length_append, List.length_cons, List.length_nil] at h1 h2
    have hp : (daysOf (l.take j) u).length + 1 - many < (daysOf (l.take j) u ++ [l[j].day]).length := by simp; omega
    refine ⟨(daysOf (l.take j) u).length + 1 - many, by rw [e2]; simp; omega, by rw [e2]; simp; omega, ?_⟩
    rw [List.getD_eq_getElem?_getD, List.getElem?_eq_getElem hp] at h2
    have e3 : (daysOf (l.take j) u).length + 1 - many + many - 1 = (daysOf (l.take j) u).length := by omega
    have g1 : (daysOf l u)[(daysOf (l.take j) u).length + 1 - many]'(by rw [e2]; simp; omega) = (daysOf (l.take j) u ++ [l[j].day])[(daysOf (l.take j) u).length + 1 - many] := by
      simp only [e2]
      rw [List.getElem_append_left hp]
    have g2 : (daysOf l u)[(daysOf (l.take j) u).length + 1 - many + many - 1]'(by rw [e2]; simp; omega) = l[j].day := by
      simp only [e2, e3]
      rw [List.getElem_append_left (by simp), List.getElem_append_right (Nat.le_refl _)]
      simp
    rw [g1, g2]
    simpa using h2
  · rintro ⟨p, h1, h2, h3⟩
    obtain ⟨j, hj, hu, ht, hd⟩ := days_at h1
    refine ⟨j, hj, by rw [getDE hj]; exact hu, ?_⟩
    have e1 : daysOf (l.take (j + 1)) u = daysOf (l.take j) u ++ [l[j].day] := by
      rw [List.take_succ_eq_append_getElem hj, days_append, days_cons_yes hu]; rfl
    unfold pC
    rw [getDE hj, hu]
    simp only [Bool.and_eq_true, decide_eq_true_eq]
    have hl : (daysOf (l.take (j + 1)) u).length = p + many := by rw [e1, ht]; simp; omega
    refine ⟨by omega, ?_⟩
    have g1 : (daysOf (l.take (j + 1)) u).getD ((daysOf (l.take (j + 1)) u).length - many) 0 = (daysOf l u)[p] := by
      rw [hl, show p + many - many = p by omega, List.getD_eq_getElem?_getD, e1, ht]
      by_cases hm1 : many = 1
      · subst hm1
        rw [List.getElem?_append_right (by simp; omega)]
        simp only [List.length_take]
        rw [show p - min (p + 1 - 1) (daysOf l u).length = 0 by omega]
        show l[j].day = _
        rw [hd]
        congr 1
      · rw [List.getElem?_append_left (by simp; omega), List.getElem?_take, if_pos (by omega), List.getElem?_eq_getElem h2]; rfl
    rw [g1, hd]
    exact h3
theorem sus_days {l : List Ent} {days : Int} {many : Nat} (hm : 1 ≤ many) (hs : l.Pairwise (fun a b => a.day ≤ b.day)) {u : Unt} : ((∃ x ∈ l, x.u = u) ∧ many ≤ oftenI l u days) ↔ ∃ p, ∃ h : p + many - 1 < (daysOf l u).length, ∃ h2 : p < (daysOf l u).length, (daysOf l u)[p + many - 1] - (daysOf l u)[p] < days := by
  unfold oftenI
  rw [oft_ge hm]
  have hE := days_sorted (u := u) hs
  constructor
  · rintro ⟨_, i, hi, hw⟩
    have hd : daysOf l u = daysOf (l.take i) u ++ daysOf (l.drop i) u := days_cut l u i
    rw [win_days] at hw
    have hw' : many ≤ (daysOf (l.drop i) u).countP (fun x => decide (x < l[i].day + days)) := by
      refine Nat.le_trans hw (List.countP_mono_left fun x _ hx => ?_)
      rw [decide_eq_true_eq] at *; omega
    have hsd : (daysOf (l.drop i) u).Pairwise (fun a b => a ≤ b) := by rw [hd] at hE; exact (List.pairwise_append.1 hE).2.1
    obtain ⟨g1, g2⟩ := (count_first hsd hm).1 hw'
    have hge : ∀ d ∈ daysOf (l.drop i) u, l[i].day ≤ d := by
      intro d hdm
      obtain ⟨y, hy, _, rfl⟩ := days_mem hdm
      rw [List.drop_eq_getElem_cons hi] at hy
      rcases List.mem_cons.1 hy with rfl | hy
      · exact Int.le_refl _
      · have hp := hs.drop (i := i)
        rw [List.drop_eq_getElem_cons hi] at hp
        exact (List.pairwise_cons.1 hp).1 y hy
    have hl : (daysOf l u).length = (daysOf (l.take i) u).length + (daysOf (l.drop i) u).length := by rw [hd, List.length_append]
    refine ⟨(daysOf (l.take i) u).length, by omega, by omega, ?_⟩
    have k1 : (daysOf l u)[(daysOf (l.take i) u).length + many - 1]'(by omega) = (daysOf (l.drop i) u)[many - 1] := by
      simp only [hd]
      rw [List.getElem_append_right (by omega)]
      congr 1
      omega
    have k2 : (daysOf l u)[(daysOf (l.take i) u).length]'(by omega) = (daysOf (l.drop i) u)[0]'(by omega) := by
      simp only [hd]
      rw [List.getElem_append_right (Nat.le_refl _)]
      congr 1
      omega
    rw [k1, k2]
    have := hge _ (List.getElem_mem (show 0 < (daysOf (l.drop i) u).length by omega))
    omega
  · rintro ⟨p, h1, h2, h3⟩
    obtain ⟨i, hi, hu, ht, hdi⟩ := days_at h2
    refine ⟨⟨l[i], List.getElem_mem hi, hu⟩, i, hi, ?_⟩
    have hd : daysOf l u = daysOf (l.take i) u ++ daysOf (l.drop i) u := days_cut l u i
    have hlp : (daysOf (l.take i) u).length = p := by rw [ht, List.length_take]; omega
    have hl : (daysOf l u).length = p + (daysOf (l.drop i) u).length := by rw [hd, List.length_append, hlp]
    have hsd : (daysOf (l.drop i) u).Pairwise (fun a b => a ≤ b) := by rw [hd] at hE; exact (List.pairwise_append.1 hE).2.1
    rw [win_days]
    have hc := (count_first (c := l[i].day + days) hsd hm).2 ⟨by omega, by
      have k1 : (daysOf l u)[p + many - 1] = (daysOf (l.drop i) u)[many - 1]'(by omega) := by
        simp only [hd]
        rw [List.getElem_append_right (by omega)]
        congr 1
        omega
      rw [← k1, hdi]; omega⟩
    refine Nat.le_trans hc (List.countP_mono_left fun x _ hx => ?_)
    rw [decide_eq_true_eq] at *; omega
theorem units_mem {all : List Ent} (hc : NoConf all) {days : Int} {many : Nat} (hm : 1 ≤ many) (u : Unt) : u ∈ pU (mergeS all) days many (mergeS all).length ↔ u ∈ susS all days many := by
  rw [susS_mem, sus_days hm (merge_asc hc), pU_days hm]
end

section
open Go.RowKit


theorem panic_bp {P : Program} {fn : Func} {R : Ending → World → Prop} {ch : List PanicEntry} {n : Nat} {s : Nat → Value} {w : World} (h : R (.panicked ch) w) : bodyPost P fn R (.panic ch) (mkA n s []) w := ⟨rfl, h⟩
def orL : List Int → Int
  | [] => 0
  | x :: l => if x ≠ 0 then x else orL l
theorem orL_found {l : List Int} : ∀ {i : Nat} (h : i < l.length), (∀ j, (hj : j < l.length) → j < i → l[j] = 0) → l[i] ≠ 0 → orL l = l[i] := by
  induction l with
  | nil => intro i h; simp at h
  | cons x l ih =>
    intro i h h1 h2; unfold orL
    cases i with
    | zero => simp at h2; simp [h2]
    | succ i =>
      have h0 := h1 0 (by simp) (by omega)
      simp at h0
      simp only [h0, ne_eq, not_true, if_false, List.getElem_cons_succ]
      exact ih (by simpa using h) (fun j hj hji => by have := h1 (j + 1) (by simp; omega) (by omega); simpa using this) (by simpa using h2)
theorem orL_zero {l : List Int} : (∀ j, (hj : j < l.length) → l[j] = 0) → orL l = 0 := by
  induction l with
  | nil => intro _; rfl
  | cons x l ih =>
    intro h; have h0 := h 0 (by simp)
    simp at h0
    unfold orL
    simp only [h0, ne_eq, not_true, if_false]
    exact ih (fun j hj => by have := h (j + 1) (by simp; omega); simpa using this)
def cmpS (a b : ByteArray) : Int := if Op.bytesLess a.toList b.toList then -1 else if Op.bytesLess b.toList a.toList then 1 else 0

theorem must_ok (e : Int) (w : World) :
    Calls Tryz.prog 54 #[.bool true, .int .i64 e] w (fun e w' => e = .returned (.tuple #[]) ∧ w = w') := by
 refine enter_F Tryz.func54 rfl Tryz.ntmps54 (by simp) ?_
 intro s0 hs; have sl0 : s0 0 = .bool true := hs 0 (by simp); have sl1 : s0 1 = .int .i64 e := hs 1 (by simp); clear hs; have HB := hid (OldB.refl [] w)
 refine nr ?_; intros; refine P2 ?_; clear sl0; refine lx [5] ?_; clear sl1; intro _ sl1 sl5; refine ln ?_; intros
 refine cond_f ?_
 refine zx ?_; intros
 refine norm_F _ (res_none Tryz.results54) ?_; exact ⟨rfl, rfl⟩

theorem must_bad (e : Int) (w : World) :
    Calls Tryz.prog 54 #[.bool false, .int .i64 e] w (fun x w' => x = .panicked [{ v := .iface 30 (.int .i64 e), recovered := false }] ∧ w = w') := by
 refine enter_F Tryz.func54 rfl Tryz.ntmps54 (by simp) ?_
 intro s0 hs; have sl0 : s0 0 = .bool false := hs 0 (by simp); have sl1 : s0 1 = .int .i64 e := hs 1 (by simp); clear hs; have HB := hid (OldB.refl [] w)
 refine nr ?_; intros; refine P2 ?_; clear sl0; refine lx [5] ?_; clear sl1; intro _ sl1 sl5; refine ln ?_; intros
 refine cond_t ?_
 refine zx ?_; intros
 refine region_yield (k := 2) (by kernel_rfl) ?_
 simp only [List.take_succ_cons, List.take_zero, List.drop_succ_cons, List.drop_zero]
 refine P2 ?_; clear sl1 sl5; refine lx [7] ?_; intro _ sl7; refine lsn ?_; refine panic_in (v := .iface 30 (.int .i64 e)) (w' := w) (by go_simp) ?_; refine panic_bp ?_; exact ⟨rfl, rfl⟩

theorem isNaN_any (s : ByteArray) (w : World) :
    Calls Tryz.prog 99 #[.string s] w (fun e w' => e = .returned (.bool false) ∧ w = w') := by
 refine enter_F Tryz.func99 rfl Tryz.ntmps99 (by simp) ?_
 intro s0 hs; have sl0 : s0 0 = .string s := hs 0 (by simp); clear hs; have HB := hid (OldB.refl [] w)
 refine nr ?_; intros; refine pl ?_; refine lx [] ?_; clear sl0; intro _ sl0; refine lr ?_; intros
 refine P4 ?_
 clear sl0; refine lx [2] ?_; intro _ sl2; refine ln ?_; intros
 refine ret_F _ (res_t Tryz.results99 ((getD_F (by decide)).trans sl2)) ?_; exact ⟨ret_bool (by simp), rfl⟩

theorem XW29b {A B1 : Prop} (hX1 : B1) (e : B1 → A := by exact ret_F _ (res_t Tryz.results65 ((getD_F (by decide)).trans sl4))) : A := e hX1
theorem cmpS_any (a b : ByteArray) (w : World) :
    Calls Tryz.prog 65 #[.string a, .string b] w (fun e w' => e = .returned (.int .i64 (cmpS a b)) ∧ w = w') := by
 refine enter_F Tryz.func65 rfl Tryz.ntmps65 (by simp) ?_
 intro s0 hs; have sl0 : s0 0 = .string a := hs 0 (by simp); have sl1 : s0 1 = .string b := hs 1 (by simp); clear hs; have HB := hid (OldB.refl [] w)
 refine nr ?_; intros; refine pl ?_; refine lx [] ?_; clear sl0 sl1; intro _ sl0 sl1; refine lr ?_; intros; refine pl ?_; refine cal (isNaN_any a _) ?_; rintro e w' ⟨rfl, rfl⟩; refine ⟨_, rfl, ?_⟩; refine pl ?_; refine lx [5] ?_; clear sl0 sl1; intro _ sl0 sl1 sl5; refine lr ?_; intros; refine pl ?_; refine cal (isNaN_any b _) ?_; rintro e w' ⟨rfl, rfl⟩; refine ⟨_, rfl, ?_⟩; refine pl ?_; refine lx [6] ?_; clear sl0 sl1 sl5; intro _ sl0 sl1 sl5 sl6; refine lr ?_; intros; refine pl ?_; clear sl5; refine lx [11] ?_; clear sl0 sl1 sl6; intro _ sl0 sl1 sl6 sl11; refine ln ?_; intros
 refine cond_f ?_
 refine nr ?_; intros; refine pl ?_; clear sl6 sl11; refine lx [13] ?_; clear sl0 sl1; intro _ sl0 sl1 sl13; refine ln ?_; intros
 refine cond_f ?_
 refine nr ?_; intros
 refine P3 ?_
 clear sl13; refine lx [16] ?_; clear sl0 sl1; intro _ sl0 sl1 sl16; refine ln ?_; intros
 refine cond_E sl16 (by decide) ?_ ?_ <;> (clear sl16; intro h16 sl16)
 ·skip
  have Hr := hid (show cmpS a b = -1 by unfold cmpS; rw [if_pos (by simpa using h16)])
  refine nr ?_; intros; refine pl ?_; clear sl0 sl1 sl16; refine lx [4] ?_; intro _ sl4; refine ln ?_; intros
  refine XW29b ?_; exact ⟨ret_int Hr.out.symm, rfl⟩
 ·skip
  refine nr ?_; intros
  refine P3 ?_
  clear sl0 sl1 sl16; refine lx [19] ?_; intro _ sl19; refine ln ?_; intros
  refine cond_E sl19 (by decide) ?_ ?_ <;> (clear sl19; intro h19 sl19)
  ·skip
   have Hr := hid (show cmpS a b = 1 by unfold cmpS; rw [if_neg (by simpa using h16), if_pos (by rcases bl_tri a.toList b.toList with h | h | h; (rw [h] at h16; cases h16); (simp [h] at h19); exact h)])
   refine nr ?_; intros; refine pl ?_; clear sl19; refine lx [4] ?_; intro _ sl4; refine ln ?_; intros
   refine XW29b ?_; exact ⟨ret_int Hr.out.symm, rfl⟩
  ·skip
   have Hr := hid (show cmpS a b = 0 by unfold cmpS; rw [if_neg (by simpa using h16), if_neg (by have h := h19; simp at h; rw [h, bl_irrefl]; decide)])
   refine nr ?_; intros; refine pl ?_; clear sl19; refine lx [4] ?_; intro _ sl4; refine ln ?_; intros
   refine XW29b ?_; exact ⟨ret_int Hr.out.symm, rfl⟩
end

section
open Go.RowKit


abbrev Ent.cs (x : Ent) : List Value := [.int .i64 x.num, .int .i64 x.mach, .int .i64 x.day, .string x.unit]
abbrev RdEn := Rd Ent.cs 4
def tank3 : ByteArray := { data := #[116, 97, 110, 107, 95, 51] }
def exA : List Flt := [⟨5, 14, 1⟩]
def exB : List Flt := [⟨3, 5, 7⟩]
def exE : List Ent := [⟨1, 1, 10, tank3⟩, ⟨2, 1, 14, tank3⟩, ⟨3, 2, 12, tank3⟩]

theorem lA_any (w : World) :
    Calls Tryz.prog 52 #[] w (fun e w' => ∃ B, e = .returned (.slice (some ⟨B, 0, none⟩) exA.length 1) ∧ RdFl w' (some ⟨B, 0, none⟩) exA ∧ w.heap.size ≤ B ∧ Below w.heap.size w w') := by
 refine enter_F Tryz.func52 rfl Tryz.ntmps52 (by simp) ?_
 intro _ hs; clear hs; have HB := hid (OldB.refl [] w)
 refine nr ?_; intros; refine pl ?_; refine lx [] ?_; intro _; refine lr ?_; intros; refine pl ?_; refine pas (fun _ B2 hB kb2 hb => ?_); have gb2 := HB.out.gB hB; have eb2 := eB hB; clear hB; replace HB := bE HB hb; clear hb; have qb2 := kb2.1; refine pl ?_; refine lx [0] ?_; intro _ sl0; refine ln ?_; intros
 refine ret_F _ (res_t Tryz.results52 ((getD_F (by decide)).trans sl0)) ?_; exact ⟨B2, rfl, Cells.rd (f := Flt.cs) (m := 3) (l := exA) (fun _ => rfl) kb2, gb2, HB.out.toBelow⟩

theorem lB_any (w : World) :
    Calls Tryz.prog 27 #[] w (fun e w' => ∃ B, e = .returned (.slice (some ⟨B, 0, none⟩) exB.length 1) ∧ RdFl w' (some ⟨B, 0, none⟩) exB ∧ w.heap.size ≤ B ∧ Below w.heap.size w w') := by
 refine enter_F Tryz.func27 rfl Tryz.ntmps27 (by simp) ?_
 intro _ hs; clear hs; have HB := hid (OldB.refl [] w)
 refine nr ?_; intros; refine pl ?_; refine lx [] ?_; intro _; refine lr ?_; intros; refine pl ?_; refine pas (fun _ B2 hB kb2 hb => ?_); have gb2 := HB.out.gB hB; have eb2 := eB hB; clear hB; replace HB := bE HB hb; clear hb; have qb2 := kb2.1; refine pl ?_; refine lx [0] ?_; intro _ sl0; refine ln ?_; intros
 refine ret_F _ (res_t Tryz.results27 ((getD_F (by decide)).trans sl0)) ?_; exact ⟨B2, rfl, Cells.rd (f := Flt.cs) (m := 3) (l := exB) (fun _ => rfl) kb2, gb2, HB.out.toBelow⟩

theorem lE_any (w : World) :
    Calls Tryz.prog 28 #[] w (fun e w' => ∃ B, e = .returned (.slice (some ⟨B, 0, none⟩) exE.length 3) ∧ RdEn w' (some ⟨B, 0, none⟩) exE ∧ w.heap.size ≤ B ∧ Below w.heap.size w w') := by
 refine enter_F Tryz.func28 rfl Tryz.ntmps28 (by simp) ?_
 intro _ hs; clear hs; have HB := hid (OldB.refl [] w)
 refine nr ?_; intros; refine pl ?_; refine lx [] ?_; intro _; refine lr ?_; intros
 refine P3 ?_
 refine pas (fun _ B4 hB kb4 hb => ?_); have gb4 := HB.out.gB hB; have eb4 := eB hB; clear hB; replace HB := bE HB hb; clear hb; have qb4 := kb4.1; refine pl ?_; refine lx [0] ?_; intro _ sl0; refine ln ?_; intros
 refine ret_F _ (res_t Tryz.results28 ((getD_F (by decide)).trans sl0)) ?_; exact ⟨B4, rfl, Cells.rd (f := Ent.cs) (m := 4) (l := exE) (fun _ => rfl) kb4, gb4, HB.out.toBelow⟩
end

section
open Go.RowKit


theorem info_ent : (Tryz.prog.info? 65).map (fun i => (i.zero, i.size, i.bytes)) = some (some (.agg #[.int .i64 0, .int .i64 0, .int .i64 0, .string ByteArray.empty]), 4, 40) := by kernel_rfl
theorem ent_one (x : Ent) : ∀ u ∈ Ent.cs x, u.oneCell' = true := by intro u hu; simp [Ent.cs] at hu; rcases hu with h | h | h | h <;> subst h <;> rfl

theorem growEnt_any (n : Nat) (w : World) (hn : n * 40 ≤ 281474976710656) :
    Calls Tryz.prog 90 #[.slice none 0 0, .int .i64 (n : Int)] w (fun e w' => ∃ v, e = .returned v ∧ Own Ent.cs 4 65 w.heap.size w' v ([] : List Ent) ∧ Below w.heap.size w w') := by
 obtain ⟨i0, hi0, hz0, hy0, hx0⟩ := info_parts info_ent
 have wz : IntKind.i64.wrap 0 = 0 := by decide
 have wn : IntKind.i64.wrap (n : Int) = n := IntWalk.i64_in _ (by omega)
 have wn2 : IntKind.i64.wrap ((n : Int) - IntKind.i64.wrap 0) = n := by rw [wz, Int.sub_zero, wn]
 have hzz : ((Value.agg #[.int .i64 0, .int .i64 0, .int .i64 0, .string ByteArray.empty])).cells.size = 4 := by rfl
 refine enter_F Tryz.func90 rfl Tryz.ntmps90 (by simp) ?_
 intro s0 hs; have sl0 : s0 0 = .slice none 0 0 := hs 0 (by simp); have sl1 : s0 1 = .int .i64 (n : Int) := hs 1 (by simp); clear hs; have HB := hid (OldB.refl [] w)
 refine nr ?_; intros; refine pl ?_; refine lx [] ?_; clear sl0 sl1; intro _ sl0 sl1; refine lr ?_; intros; refine P2 ?_; refine lx [6] ?_; clear sl0 sl1; intro _ sl0 sl1 sl6; refine ln ?_; intros
 refine cond_f ?_
 refine nr ?_; intros
 refine P8 ?_
 clear sl1 sl6; refine lx [1] ?_; clear sl0; intro _ sl0 sl1; refine lr ?_; intros; refine P2 ?_; refine lx [16] ?_; clear sl0 sl1; intro _ sl0 sl1 sl16; refine ln ?_; intros
 refine cond_E sl16 (by decide) ?_ ?_ <;> (clear sl16; intro h16 sl16)
 ·skip
  have hn0 : 0 < n := by have h := h16; simp at h; omega
  refine nr ?_; intros
  refine P5 ?_
  obtain ⟨BZ, hBZ⟩ : ∃ b, b = w.heap.size := ⟨_, rfl⟩; obtain ⟨cz, hcz⟩ : ∃ c, c = grownCap w n 0 65 := ⟨_, rfl⟩; have hrz := Lib.run_append_nil_zeros (P := Tryz.prog) w 36 3 36 65 i0 _ .i64 .i64 Tryz.underlying36 Tryz.underlying3 hi0 hz0 n hn0 (by rw [hy0]; decide) (by omega) (by rw [hx0]; omega); rw [← hcz, ← hBZ] at hrz; have gBZ := HB.out.gB hBZ; refine listF_step rfl (fun K' hK => ?_); refine opF_of_wp (d := 22) rfl (by decide) (fun K1 Q hK1 => Lib.wp_append_run _ (.tmp 20) (.tmp 21) 36 3 rfl (.slice none 0 0) (.int .i64 (n : Int)) (by rw [mkA_eval]; go_simp) (by rw [mkA_eval]; go_simp) _ _ hrz (hK1 _ _ (hK _ _ ?_))); have hO22 : Own Ent.cs 4 65 w.heap.size _ _ ([] : List Ent) := own_zeros (f := Ent.cs) (m := 4) w n ((Value.agg #[.int .i64 0, .int .i64 0, .int .i64 0, .string ByteArray.empty])) hzz (by unfold maxLen; omega)
  have hb := Below.drewAlloc w (.cells (Builtin.zeroCells ((Value.agg #[.int .i64 0, .int .i64 0, .int .i64 0, .string ByteArray.empty])).cells n ++ Builtin.zeroCells ((Value.agg #[.int .i64 0, .int .i64 0, .int .i64 0, .string ByteArray.empty])).cells (grownCap w n 0 65 - n)) 65); rw [← hcz, ← hBZ] at hO22; clear hK1 hK K' hrz Q
  (try rw [← hcz] at hb)
  clear hcz hBZ; refine listF_absw ?_; intro _ hw'; rw [← hw'] at hO22 hb; clear hw'; replace HB := bE HB hb; clear hb
  refine P4 ?_
  clear sl0 sl1 sl16; refine lx [0] ?_; intro _ sl0; refine lr ?_; intros; refine P2 ?_; clear sl0; refine lx [4] ?_; intro _ sl4; refine ln ?_; intros
  refine ret_F _ (res_t Tryz.results90 ((getD_F (by decide)).trans sl4)) ?_; exact ⟨_, rfl, Own.base hO22 gBZ, HB.out.toBelow⟩
 ·skip
  refine nr ?_; intros; refine P2 ?_; clear sl0 sl1 sl16; refine lx [4] ?_; intro _ sl4; refine ln ?_; intros
  refine ret_F _ (res_t Tryz.results90 ((getD_F (by decide)).trans sl4)) ?_; exact ⟨_, rfl, Own.nil _ _ _ _ _, HB.out.toBelow⟩


structure SlE where
  a : Option Addr
  c : Nat
  l : List Ent
abbrev SlE.cs (x : SlE) : List Value := [.slice x.a x.l.length x.c]
abbrev RdSlE := Rd SlE.cs 1
theorem RdSlE.ne {w : World} {a : Option Addr} {l : List SlE} (h : RdSlE w a l) {k : Nat} (hk : k < l.length) :
    ∃ b off, a = some ⟨b, off, none⟩ ∧ b < w.heap.size ∧ w.cell? ⟨b, off + k, none⟩ = some (.slice l[k].a l[k].l.length l[k].c) := by
  obtain ⟨b, off, ha, hb, hc⟩ := Rd.ne h hk; exact ⟨b, off, ha, hb, by simpa using hc 0 _ rfl⟩
def catE (xs : List SlE) (i : Nat) : List Ent := (xs.take i).flatMap (·.l)
theorem catE_succ {xs : List SlE} {i : Nat} (h : i < xs.length) : catE xs (i + 1) = catE xs i ++ xs[i].l := by
  unfold catE; rw [List.take_succ_eq_append_getElem h, List.flatMap_append]; simp
theorem catE_le (xs : List SlE) (i : Nat) : (catE xs i).length ≤ (catE xs xs.length).length := by
  unfold catE; rw [List.take_length]
  conv => rhs; rw [← List.take_append_drop i xs]
  rw [List.flatMap_append, List.length_append]; omega

theorem concatE_any (a : Option Addr) (c : Nat) (xs : List SlE) (w : World) (hR : RdSlE w a xs) (hE : ∀ x ∈ xs, RdEn w x.a x.l) (hl : (catE xs xs.length).length ≤ 1000) (hxl : xs.length ≤ 1000) :
    Calls Tryz.prog 57 #[.slice a xs.length c] w (fun e w' => ∃ v, e = .returned v ∧ Own Ent.cs 4 65 w.heap.size w' v (catE xs xs.length) ∧ Below w.heap.size w w') := by
 have HR := hid hR; have HE := hid hE; clear hR hE; obtain ⟨i0, hi0, hz0, hy0, hx0⟩ := info_parts info_ent
 refine enter_F Tryz.func57 rfl Tryz.ntmps57 (by simp) ?_
 intro s0 hs; have sl0 : s0 0 = .slice a xs.length c := hs 0 (by simp); clear hs; have HB := hid (OldB.refl [] w)
 refine nr ?_; intros; refine pl ?_; refine lx [] ?_; clear sl0; intro _ sl0; refine lr ?_; intros; refine pl ?_; refine lx [3] ?_; clear sl0; intro _ sl0 sl3; refine lr ?_; intros
 refine P3 ?_
 refine lx [9,10,11] ?_; clear sl0 sl3; intro s3 sl0 sl3 sl9 sl10 sl11; refine ln ?_; intros
 have hc0_0 := hid sl0; have hc0_9 := hid sl9; have hc0_10 := hid sl10; refine loop_F (n := 36) (fun kJ sJ wJ => ∃ (i : Nat), kJ = xs.length - i ∧ sJ 3 = .int .i64 ((catE xs i).length : Int) ∧ sJ 11 = .int .i64 (i : Int) ∧ sJ 0 = s3 0 ∧ sJ 9 = s3 9 ∧ sJ 10 = s3 10 ∧ OldB [] w wJ ∧ i ≤ xs.length) ⟨0, rfl, (by rw [sl3]; rfl), (by first | exact sl11 | (rw [sl11]; go_num) | (rw [sl11]; rfl)), rfl, rfl, rfl, OldB.refl _ _, Nat.zero_le _⟩ ?_; clear sl3 sl11; rintro kJ s4 w5 ⟨i, rfl, sl3, sl11, e0, e9, e10, hb, hil⟩; replace sl0 := e0.trans sl0; clear e0; replace sl9 := e9.trans sl9; clear e9; replace sl10 := e10.trans sl10; clear e10; have hoJ := hb; replace HB := mO HB hb; clear hb; have HoJ := hid hoJ; clear hoJ; have HL7 := HoJ; clear HoJ
 refine nr ?_; intros; refine pl ?_; refine lx [12] ?_; clear sl0 sl3 sl9 sl10 sl11; intro _ sl0 sl3 sl9 sl10 sl11 sl12; refine ln ?_; intros
 refine cond_E sl12 (by decide) ?_ ?_ <;> (clear sl12; intro h12 sl12)
 ·skip
  have hi : i < xs.length := by simpa using h12
  have hii : (i : Int) < xs.length := by omega
  obtain ⟨bx, ox, hax, hbx, cx⟩ := RdSlE.ne (Rd.oldB HR.out HB.out (by simp)) hi; subst hax; obtain ⟨x, hx⟩ : ∃ x, xs[i] = x := ⟨_, rfl⟩; rw [hx] at cx; have hcs := catE_succ hi; have hcl := catE_le xs (i + 1); rw [hcs, hx, List.length_append] at hcl; have Hcs := hid (show (catE xs (i + 1)).length = (catE xs i).length + x.l.length by rw [hcs, hx, List.length_append]); have wsm : IntKind.i64.wrap (((catE xs i).length : Int) + (x.l.length : Int)) = ((catE xs i).length : Int) + x.l.length := IntWalk.i64_in _ (by omega); clear hx hcs
  refine nr ?_; intros
  refine P3 ?_
  clear sl12; refine lx [5] ?_; clear sl0 sl3 sl9 sl10 sl11; intro _ sl0 sl3 sl9 sl10 sl11 sl5; refine lr ?_; intros
  refine P5 ?_
  clear sl3 sl5; refine lx [3] ?_; clear sl0 sl9 sl10 sl11; intro _ sl0 sl9 sl10 sl11 sl3; refine lr ?_; intros; refine P2 ?_; refine lx [20] ?_; clear sl0 sl3 sl9 sl10 sl11; intro _ sl0 sl3 sl9 sl10 sl11 sl20; refine ln ?_; intros
  refine cond_E sl20 (by decide) ?_ ?_ <;> (clear sl20; intro h20 sl20)
  ·skip
   simp at h20; omega
  ·skip
   refine nr ?_; intros; refine P2 ?_; clear sl11 sl20; refine lx [11] ?_; clear sl0 sl3 sl9 sl10; intro _ sl0 sl3 sl9 sl10 sl11; refine ln ?_; intros
   refine ⟨_, _, rfl, ?_, i + 1, rfl, (by rw [sl3, Hcs.out]; first | rfl | (rw [Int.natCast_add]; rw [wsm]) | (rw [Int.natCast_add])), (rL sl11), (sl0.trans hc0_0.out.symm), (sl9.trans hc0_9.out.symm), (sl10.trans hc0_10.out.symm), HL7.out, by omega⟩
   omega
 ·skip
  have hi : i = xs.length := by have h := h12; simp at h; omega
  subst hi
  refine zx ?_; intros
  clear HL7; clear hc0_0 hc0_9 hc0_10; refine region_F ?_; refine pl ?_; refine cal (growEnt_any (catE xs xs.length).length _ (by omega)) ?_; rintro e _ ⟨v24, rfl, hO24, hb⟩; replace hO24 := Own.base (base' := w.heap.size) hO24 HB.out.size; refine ⟨_, rfl, ?_⟩; replace HB := bE HB hb; clear hb; refine pl ?_; clear sl3 sl9 sl10 sl11 sl12; refine lx [6] ?_; clear sl0; intro _ sl0 sl6; refine lr ?_; intros
  refine P3 ?_
  clear sl0; refine lx [25,26,27] ?_; clear sl6; intro s16 sl6 sl25 sl26 sl27; refine ln ?_; intros
  have hc1_25 := hid sl25; have hc1_26 := hid sl26; refine loop_F (n := 36) (fun kJ sJ wJ => ∃ (i : Nat) (v6 : Value), kJ = xs.length - i ∧ sJ 6 = v6 ∧ sJ 27 = .int .i64 (i : Int) ∧ sJ 25 = s16 25 ∧ sJ 26 = s16 26 ∧ OldB [] w wJ ∧ i ≤ xs.length ∧ Own Ent.cs 4 65 w.heap.size wJ v6 (catE xs i)) ⟨0, v24, rfl, (by first | exact sl6 | (rw [sl6]; go_num) | (rw [sl6]; rfl)), (by first | exact sl27 | (rw [sl27]; go_num) | (rw [sl27]; rfl)), rfl, rfl, HB.out, Nat.zero_le _, hO24⟩ ?_; clear sl6 sl27 HB; rintro kJ s17 w18 ⟨i, v6, rfl, sl6, sl27, e25, e26, HB', hil, hO6⟩; replace sl25 := e25.trans sl25; clear e25; replace sl26 := e26.trans sl26; clear e26; have HB := hid HB'; clear HB'
  refine nr ?_; intros; refine pl ?_; refine lx [28] ?_; clear sl6 sl25 sl26 sl27; intro _ sl6 sl25 sl26 sl27 sl28; refine ln ?_; intros
  refine cond_E sl28 (by decide) ?_ ?_ <;> (clear sl28; intro h28 sl28)
  ·skip
   have hi : i < xs.length := by simpa using h28
   have hii : (i : Int) < xs.length := by omega
   obtain ⟨bx, ox, hax, hbx, cx⟩ := RdSlE.ne (Rd.oldB HR.out HB.out (by simp)) hi; subst hax; obtain ⟨x, hx⟩ : ∃ x, xs[i] = x := ⟨_, rfl⟩; rw [hx] at cx; have hcs := catE_succ hi; have hcl := catE_le xs (i + 1); rw [hcs, hx, List.length_append] at hcl; have Hcs := hid (show catE xs i ++ x.l = catE xs (i + 1) by rw [hcs, hx]); have Hxr := hid (show RdEn w x.a x.l from HE.out x (by rw [← hx]; exact List.getElem_mem hi)); clear hx hcs
   refine nr ?_; intros
   refine P3 ?_
   clear sl28; refine lx [8] ?_; clear sl6 sl25 sl26 sl27; intro _ sl6 sl25 sl26 sl27 sl8; refine lr ?_; intros; refine P2 ?_; refine listF_step rfl (fun K' hK => ?_); refine opF_app (d := 33) rfl (by decide) (.tmp 31) (.tmp 32) _ rfl 65 i0 _ 40 Tryz.underlying36 hi0 hz0 hy0 hx0 rfl (by decide) (fun _ => rfl) ent_one w.heap.size _ (catE xs i) x.l x.a x.c (by go_simp) (by go_simp) hO6 (Rd.oldB Hxr.out HB.out (by simp)) (by unfold maxLen; omega) (by omega) HB.out.size (fun v33 w21 hO' hG hV => hK _ _ ?_); clear hK K'; replace HB := hid (HB.out.grown hG (fun k hk => .inl (by have := (World.ownsRow.lt hO6 k hk).1; omega))); rw [Hcs.out] at hO'; clear hO6 hG hV; refine pl ?_; clear sl6 sl8; refine lx [6] ?_; clear sl25 sl26 sl27; intro _ sl25 sl26 sl27 sl6; refine lr ?_; intros; refine P2 ?_; clear sl27; refine lx [27] ?_; clear sl6 sl25 sl26; intro _ sl6 sl25 sl26 sl27; refine ln ?_; intros
   refine ⟨_, _, rfl, ?_, i + 1, v33, rfl, (rL sl6), (rL sl27), (sl25.trans hc1_25.out.symm), (sl26.trans hc1_26.out.symm), HB.out, by omega, hO'⟩
   omega
  ·skip
   have hi : i = xs.length := by have h := h28; simp at h; omega
   subst hi
   refine zx ?_; intros
   clear hc1_25 hc1_26; refine region_F ?_; refine P2 ?_; clear sl6 sl25 sl26 sl27 sl28; refine lx [2] ?_; intro _ sl2; refine ln ?_; intros
   refine ret_F _ (res_t Tryz.results57 ((getD_F (by decide)).trans sl2)) ?_; exact ⟨_, rfl, hO6, HB.out.toBelow⟩
end

section
open Go.RowKit


abbrev Unt.cs (x : Unt) : List Value := [.int .i64 x.mach, .string x.unit]
abbrev RdUn := Rd Unt.cs 2
theorem info_unt : (Tryz.prog.info? 69).map (fun i => (i.zero, i.size, i.bytes)) = some (some (.agg #[.int .i64 0, .string ByteArray.empty]), 2, 24) := by kernel_rfl
theorem unt_one (x : Unt) : ∀ u ∈ Unt.cs x, u.oneCell' = true := by intro u hu; simp [Unt.cs] at hu; rcases hu with h | h <;> subst h <;> rfl
theorem RdEn.ne {w : World} {a : Option Addr} {l : List Ent} (h : RdEn w a l) {k : Nat} (hk : k < l.length) :
    ∃ b off, a = some ⟨b, off, none⟩ ∧ b < w.heap.size ∧ w.cell? ⟨b, off + k * 4, none⟩ = some (.int .i64 l[k].num) ∧ w.cell? ⟨b, off + k * 4 + 1, none⟩ = some (.int .i64 l[k].mach) ∧ w.cell? ⟨b, off + k * 4 + 2, none⟩ = some (.int .i64 l[k].day) ∧ w.cell? ⟨b, off + k * 4 + 3, none⟩ = some (.string l[k].unit) := by
  obtain ⟨b, off, ha, hb, hc⟩ := Rd.ne h hk; exact ⟨b, off, ha, hb, by simpa using hc 0 _ rfl, hc 1 _ rfl, hc 2 _ rfl, hc 3 _ rfl⟩
theorem RdUn.ne {w : World} {a : Option Addr} {l : List Unt} (h : RdUn w a l) {k : Nat} (hk : k < l.length) :
    ∃ b off, a = some ⟨b, off, none⟩ ∧ b < w.heap.size ∧ w.cell? ⟨b, off + k * 2, none⟩ = some (.int .i64 l[k].mach) ∧ w.cell? ⟨b, off + k * 2 + 1, none⟩ = some (.string l[k].unit) := by
  obtain ⟨b, off, ha, hb, hc⟩ := Rd.ne h hk; exact ⟨b, off, ha, hb, by simpa using hc 0 _ rfl, hc 1 _ rfl⟩

theorem cloneEnt_none (c : Nat) (l : List Ent) (w : World) (hl : l.length ≤ 1000) (hR : RdEn w none l) :
    Calls Tryz.prog 91 #[.slice none l.length c] w (fun e w' => ∃ v, e = .returned v ∧ Own Ent.cs 4 65 w.heap.size w' v l ∧ Below w.heap.size w w') := by
 obtain ⟨i0, hi0, hz0, hz1, hz2⟩ := info_parts info_ent; have HR := hid hR; clear hR
 have hnil : ∀ w, (binOp .eql 36 (.slice none l.length c) (.slice none 0 0)).run Tryz.prog w = .ok (.bool true) w := fun w => Lib.run_eql_slice_nil w _ _ _ _ _ _ _ Tryz.underlying36
 refine enter_F Tryz.func91 rfl Tryz.ntmps91 (by simp) ?_
 intro s0 hs; have sl0 : s0 0 = .slice none l.length c := hs 0 (by simp); clear hs; have HB := hid (OldB.refl [] w)
 refine nr ?_; intros; refine pl ?_; refine lx [] ?_; clear sl0; intro _ sl0; refine lr ?_; intros; refine P2 ?_; refine lx [4] ?_; clear sl0; intro _ sl0 sl4; refine ln ?_; intros
 refine cond_t ?_
 refine nr ?_; intros; refine pl ?_; clear sl0 sl4; refine lx [2] ?_; intro _ sl2; refine ln ?_; intros
 refine ret_F _ (res_t Tryz.results91 ((getD_F (by decide)).trans sl2)) ?_
 have hl0 : l = [] := by rcases HR.out with h | ⟨b, o, h, _⟩; exact h; cases h
 exact ⟨_, rfl, by rw [hl0]; exact Own.nil _ _ _ _ _, HB.out.toBelow⟩

theorem cloneEnt_some (p : Addr) (c : Nat) (l : List Ent) (w : World) (hl : l.length ≤ 1000) (hR : RdEn w (some p) l) :
    Calls Tryz.prog 91 #[.slice (some p) l.length c] w (fun e w' => ∃ v, e = .returned v ∧ Own Ent.cs 4 65 w.heap.size w' v l ∧ Below w.heap.size w w') := by
 obtain ⟨i0, hi0, hz0, hz1, hz2⟩ := info_parts info_ent; have HR := hid hR; clear hR
 have hnil : ∀ w, (binOp .eql 36 (.slice (some p) l.length c) (.slice none 0 0)).run Tryz.prog w = .ok (.bool false) w := fun w => Lib.run_eql_slice_nil w _ _ _ _ _ _ _ Tryz.underlying36
 refine enter_F Tryz.func91 rfl Tryz.ntmps91 (by simp) ?_
 intro s0 hs; have sl0 : s0 0 = .slice (some p) l.length c := hs 0 (by simp); clear hs; have HB := hid (OldB.refl [] w)
 refine nr ?_; intros; refine pl ?_; refine lx [] ?_; clear sl0; intro _ sl0; refine lr ?_; intros; refine P2 ?_; refine lx [4] ?_; clear sl0; intro _ sl0 sl4; refine ln ?_; intros
 refine cond_f ?_
 refine nr ?_; intros; refine listF_step rfl (fun K' hK => ?_); unfold opF; go_simp; refine hK _ _ ?_; clear hK K'; refine listF_absw ?_; intro w3 hw'
 have hO5 : Own Ent.cs 4 65 w.heap.size w3 (.slice (some ⟨w.heap.size, 0, none⟩) 0 0) [] := by rw [hw']; exact Own.lit (l := ([] : List Ent)) (Nat.le_refl _) (by unfold maxLen; simp) rfl (fun _ => rfl)
 have hb : Below w.heap.size w w3 := by rw [hw']; exact below_alloc1 _ _
 clear hw'; replace HB := bE HB hb; clear hb; refine pl ?_; refine listF_step rfl (fun K' hK => ?_); have hzz := HB.out.size; refine opF_app (d := 7) rfl (by decide) (.tmp 5) (.tmp 6) _ rfl 65 i0 _ 40 Tryz.underlying36 hi0 hz0 hz1 hz2 rfl (by decide) (fun _ => rfl) ent_one w.heap.size _ [] l (some p) c (by go_simp) (by go_simp) hO5 (Rd.oldB HR.out HB.out (by simp)) (by unfold maxLen; simp; omega) (by simp; omega) (by omega) (fun v7 w5 hO7 hG7 hV7 => hK _ _ ?_); clear hK K'; replace HB := hid (HB.out.grown hG7 (fun k hk => .inl (by simp [Value.ownBlock] at hk; omega))); have HO7 := hid hO7; clear hO5 hG7 hV7 hzz hO7; refine pl ?_; clear sl0 sl4; refine lx [2] ?_; intro _ sl2; refine ln ?_; intros
 refine ret_F _ (res_t Tryz.results91 ((getD_F (by decide)).trans sl2)) ?_; exact ⟨_, rfl, HO7.out, HB.out.toBelow⟩

theorem cloneEnt_any (a : Option Addr) (c : Nat) (l : List Ent) (w : World) (hl : l.length ≤ 1000) (hR : RdEn w a l) :
    Calls Tryz.prog 91 #[.slice a l.length c] w fun e w' => ∃ v, e = .returned v ∧ Own Ent.cs 4 65 w.heap.size w' v l ∧ Below w.heap.size w w' := by
  cases a with
  | none => exact cloneEnt_none c l w hl hR
  | some p => exact cloneEnt_some p c l w hl hR

theorem cloneUnt_none (c : Nat) (l : List Unt) (w : World) (hl : l.length ≤ 1000) (hR : RdUn w none l) :
    Calls Tryz.prog 96 #[.slice none l.length c] w (fun e w' => ∃ v, e = .returned v ∧ Own Unt.cs 2 69 w.heap.size w' v l ∧ Below w.heap.size w w') := by
 obtain ⟨i0, hi0, hz0, hz1, hz2⟩ := info_parts info_unt; have HR := hid hR; clear hR
 have hnil : ∀ w, (binOp .eql 40 (.slice none l.length c) (.slice none 0 0)).run Tryz.prog w = .ok (.bool true) w := fun w => Lib.run_eql_slice_nil w _ _ _ _ _ _ _ Tryz.underlying40
 refine enter_F Tryz.func96 rfl Tryz.ntmps96 (by simp) ?_
 intro s0 hs; have sl0 : s0 0 = .slice none l.length c := hs 0 (by simp); clear hs; have HB := hid (OldB.refl [] w)
 refine nr ?_; intros; refine pl ?_; refine lx [] ?_; clear sl0; intro _ sl0; refine lr ?_; intros; refine P2 ?_; refine lx [4] ?_; clear sl0; intro _ sl0 sl4; refine ln ?_; intros
 refine cond_t ?_
 refine nr ?_; intros; refine pl ?_; clear sl0 sl4; refine lx [2] ?_; intro _ sl2; refine ln ?_; intros
 refine ret_F _ (res_t Tryz.results96 ((getD_F (by decide)).trans sl2)) ?_
 have hl0 : l = [] := by rcases HR.out with h | ⟨b, o, h, _⟩; exact h; cases h
 exact ⟨_, rfl, by rw [hl0]; exact Own.nil _ _ _ _ _, HB.out.toBelow⟩

theorem cloneUnt_some (p : Addr) (c : Nat) (l : List Unt) (w : World) (hl : l.length ≤ 1000) (hR : RdUn w (some p) l) :
    Calls Tryz.prog 96 #[.slice (some p) l.length c] w (fun e w' => ∃ v, e = .returned v ∧ Own Unt.cs 2 69 w.heap.size w' v l ∧ Below w.heap.size w w') := by
 obtain ⟨i0, hi0, hz0, hz1, hz2⟩ := info_parts info_unt; have HR := hid hR; clear hR
 have hnil : ∀ w, (binOp .eql 40 (.slice (some p) l.length c) (.slice none 0 0)).run Tryz.prog w = .ok (.bool false) w := fun w => Lib.run_eql_slice_nil w _ _ _ _ _ _ _ Tryz.underlying40
 refine enter_F Tryz.func96 rfl Tryz.ntmps96 (by simp) ?_
 intro s0 hs; have sl0 : s0 0 = .slice (some p) l.length c := hs 0 (by simp); clear hs; have HB := hid (OldB.refl [] w)
 refine nr ?_; intros; refine pl ?_; refine lx [] ?_; clear sl0; intro _ sl0; refine lr ?_; intros; refine P2 ?_; refine lx [4] ?_; clear sl0; intro _ sl0 sl4; refine ln ?_; intros
 refine cond_f ?_
 refine nr ?_; intros; refine listF_step rfl (fun K' hK => ?_); unfold opF; go_simp; refine hK _ _ ?_; clear hK K'; refine listF_absw ?_; intro w3 hw'
 have hO5 : Own Unt.cs 2 69 w.heap.size w3 (.slice (some ⟨w.heap.size, 0, none⟩) 0 0) [] := by rw [hw']; exact Own.lit (l := ([] : List Unt)) (Nat.le_refl _) (by unfold maxLen; simp) rfl (fun _ => rfl)
 have hb : Below w.heap.size w w3 := by rw [hw']; exact below_alloc1 _ _
 clear hw'; replace HB := bE HB hb; clear hb; refine pl ?_; refine listF_step rfl (fun K' hK => ?_); have hzz := HB.out.size; refine opF_app (d := 7) rfl (by decide) (.tmp 5) (.tmp 6) _ rfl 69 i0 _ 24 Tryz.underlying40 hi0 hz0 hz1 hz2 rfl (by decide) (fun _ => rfl) unt_one w.heap.size _ [] l (some p) c (by go_simp) (by go_simp) hO5 (Rd.oldB HR.out HB.out (by simp)) (by unfold maxLen; simp; omega) (by simp; omega) (by omega) (fun v7 w5 hO7 hG7 hV7 => hK _ _ ?_); clear hK K'; replace HB := hid (HB.out.grown hG7 (fun k hk => .inl (by simp [Value.ownBlock] at hk; omega))); have HO7 := hid hO7; clear hO5 hG7 hV7 hzz hO7; refine pl ?_; clear sl0 sl4; refine lx [2] ?_; intro _ sl2; refine ln ?_; intros
 refine ret_F _ (res_t Tryz.results96 ((getD_F (by decide)).trans sl2)) ?_; exact ⟨_, rfl, HO7.out, HB.out.toBelow⟩

theorem cloneUnt_any (a : Option Addr) (c : Nat) (l : List Unt) (w : World) (hl : l.length ≤ 1000) (hR : RdUn w a l) :
    Calls Tryz.prog 96 #[.slice a l.length c] w fun e w' => ∃ v, e = .returned v ∧ Own Unt.cs 2 69 w.heap.size w' v l ∧ Below w.heap.size w w' := by
  cases a with
  | none => exact cloneUnt_none c l w hl hR
  | some p => exact cloneUnt_some p c l w hl hR
end


end Go.Proofs.YtleknidlgmmgbaaGreat
