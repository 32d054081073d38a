/- look: its parts. -/
import Derived.Test.YtndcmmghgljinaaW12
set_option linter.all false
namespace Go.Proofs.Ytndcmmghgljinaa
open Go.RowKit


abbrev badC (k : Kd) (x : MCk) : Bool := !chkOk k x

set_option maxRecDepth 100000 in
set_option maxHeartbeats 1000000 in
theorem look1_any (x : MCk) (P V : Nat) (k : Kd) (a : Option Addr) (c : Nat) (s : Span) (h : Int) (w : World) (hP : Cells w P [.pointer (some ⟨V, 0, none⟩)]) (hV : Cells w V (vC k a c s h)) (hR : RdSteps w a k.steps) (hK : KOk k) :
    Calls Try.prog 71 #[.agg #[.int .i64 x.hour, .int .i64 x.volt, .bool x.passed], .pointer (some ⟨P, 0, none⟩)] w (fun e w' => e = .returned (.bool (badC k x)) ∧ Below w.heap.size w w') := by
 have HR := hid hR; have HK := hid hK; clear hR hK; have kP := hP; have kV := hV
 refine enter_F Try.func71 rfl Try.ntmps71 (by simp) ?_
 intro s0 hs; have sl0 : s0 0 = .agg #[.int .i64 x.hour, .int .i64 x.volt, .bool x.passed] := hs 0 (by simp); have sl1 : s0 1 = .pointer (some ⟨P, 0, none⟩) := hs 1 (by simp); clear hs; have HB := hid (OldB.refl [] w); have qP := kP.1; have qV := kV.1
 repeat ((fail_if_success refine stp ?_); with_reducible go_step)
 refine region_F ?_; refine pa (fun w1 B2 hB kb2' hb2 => ?_); have gb2 := HB.out.gB hB; have oP_b2 := oB qP hB; have oV_b2 := oB qV hB; have eb2 := eB hB; clear hB; clear qP qV; replace kP := kP.at hb2; replace kV := kV.at hb2; replace HB := hid (HB.out.below hb2); clear hb2; have qP := kP.1; have qV := kV.1; have kb2 := kb2'; clear kb2'; have qb2 := kb2.1; refine pl ?_; refine listF_abs (fun s3 z' => ?_); replace sl1 := gs 1 z' sl1; have sl2 := gu 2 z'; clear z' sl0; refine listF_nil ?_
 repeat ((fail_if_success refine stp ?_); with_reducible go_step)
 refine region_F ?_; refine pl ?_; have cb2_0 := kb2.cell 0 rfl; have cb2_1 := kb2.cell 1 rfl; have cb2_2 := kb2.cell 2 rfl; refine pl ?_; refine pas (fun w4 B6 hB kb6' hb5 => ?_); have gb6 := HB.out.gB hB; have oP_b6 := oB qP hB; have oV_b6 := oB qV hB; have ob2_b6 := oB qb2 hB; have eb6 := eB hB; clear hB; clear cb2_0 cb2_1 cb2_2; clear qP qV qb2; replace kP := kP.at hb5; replace kV := kV.at hb5; replace kb2 := kb2.at hb5; replace HB := hid (HB.out.below hb5); clear hb5; have qP := kP.1; have qV := kV.1; have qb2 := kb2.1; have kb6 := kb6'; clear kb6'; have qb6 := kb6.1; refine listF_step rfl (fun K' hK => ?_); unfold opF; go_simp; refine (out_any 100000 _ _ [x.hour] _ (by simp) (rd1 kb6)).mono ?_; rintro e w6 ⟨rfl, hb7⟩; refine ⟨_, rfl, hK _ _ ?_⟩; clear hK K'; clear qP qV qb2 qb6; replace kP := kP.at hb7; replace kV := kV.at hb7; replace kb2 := kb2.at hb7; replace kb6 := kb6.at hb7; replace HB := hid (HB.out.below hb7); clear hb7; have qP := kP.1; have qV := kV.1
 have qb2 := kb2.1; have qb6 := kb6.1; refine pl ?_; refine listF_abs (fun s8 z' => ?_); replace sl1 := gs 1 z' sl1; replace sl2 := gs 2 z' sl2; have sl8 := gu 8 z'; clear z'
 refine boolG sl8 (fun sl8' h8 => ?_) (fun sl8' h8 => ?_) <;> (clear sl8; have sl8 := sl8'; clear sl8')
 ·skip
  refine pn true ?_
  refine pn true ?_; refine pn true ?_; refine pn true ?_; refine pl ?_; refine pl ?_; refine listF_abs (fun s9 z' => ?_); have sl3 := gu 3 z'; clear z' sl1 sl2 sl8; refine listF_nil ?_
  repeat ((fail_if_success refine stp ?_); with_reducible go_step)
  refine ret_F _ (res_t Try.results71 ((getD_F (by decide)).trans sl3)) ?_; refine ⟨ret_bool ?_, HB.out.toBelow⟩
  rw [out1] at h8; unfold badC chkOk; cases hz : inb x.hour 0 100000 <;> simp [hz] at h8 ⊢
 ·skip
  have cP_0 := kP.cell 0 rfl; refine py ?_; refine py ?_; have cb2_0 := kb2.cell 0 rfl; have cb2_1 := kb2.cell 1 rfl; have cb2_2 := kb2.cell 2 rfl; refine py ?_; refine listF_yes rfl rfl (by decide) ?_ (fun K' hK => ?_); (focus (go_simp; done)); unfold opF; go_simp; refine (silent_any V k a c s h x.volt _ kV (Rd.oldB HR.out HB.out (by simp)) HK.out).mono ?_; rintro e w10 ⟨rfl, hb11⟩; refine ⟨_, rfl, hK _ _ ?_⟩; clear hK K'; clear cP_0 cb2_0 cb2_1 cb2_2; clear qP qV qb2 qb6; replace kP := kP.at hb11; replace kV := kV.at hb11; replace kb2 := kb2.at hb11; replace kb6 := kb6.at hb11; replace HB := hid (HB.out.below hb11); clear hb11; have qP := kP.1; have qV := kV.1; have qb2 := kb2.1; have qb6 := kb6.1; refine pl ?_; refine pl ?_; refine listF_abs (fun s12 z' => ?_); have sl3 := gu 3 z'; clear z' sl1 sl2 sl8; refine listF_nil ?_
  repeat ((fail_if_success refine stp ?_); with_reducible go_step)
  refine ret_F _ (res_t Try.results71 ((getD_F (by decide)).trans sl3)) ?_; refine ⟨ret_bool ?_, HB.out.toBelow⟩
  rw [out1] at h8; unfold badC chkOk; cases hz : inb x.hour 0 100000 <;> simp [hz] at h8 ⊢

set_option maxRecDepth 100000 in
set_option maxHeartbeats 1000000 in
theorem idxCk_any (al : Option Addr) (cl : Nat) (l : List MCk) (P V : Nat) (k : Kd) (a : Option Addr) (c : Nat) (s : Span) (h : Int) (w : World) (hl : l.length ≤ 9223372036854775807) (hRl : RdCks w al l) (hP : Cells w P [.pointer (some ⟨V, 0, none⟩)]) (hV : Cells w V (vC k a c s h)) (hR : RdSteps w a k.steps) (hK : KOk k) :
    Calls Try.prog 82 #[.slice al l.length cl, .func (.func 71) #[] #[.pointer (some ⟨P, 0, none⟩)]] w (fun e w' => e = .returned (.int .i64 (idxOf (badC k) l)) ∧ Below w.heap.size w w') := by
 have HRl := hid hRl; clear hRl; have HR := hid hR; have HK := hid hK; have HP := hid hP; have HV := hid hV; clear hR hK hP hV
 refine enter_F Try.func82 rfl Try.ntmps82 (by simp) ?_
 intro s0 hs; have sl0 : s0 0 = .slice al l.length cl := hs 0 (by simp); have sl1 : s0 1 = .func (.func 71) #[] #[.pointer (some ⟨P, 0, none⟩)] := hs 1 (by simp); clear hs; have HB := hid (OldB.refl [] w)
 repeat ((fail_if_success refine stp ?_); with_reducible go_step)
 refine region_F ?_; refine pl ?_; refine listF_abs (fun s1 z' => ?_); replace sl0 := gs 0 z' sl0; replace sl1 := gs 1 z' sl1; clear z'; refine listF_nil ?_
 repeat ((fail_if_success refine stp ?_); with_reducible go_step)
 refine region_F ?_
 iterate 3 refine pl ?_
 refine listF_abs (fun s2 z' => ?_); replace sl0 := gs 0 z' sl0; replace sl1 := gs 1 z' sl1; have sl7 := gu 7 z'; have sl8 := gu 8 z'; clear z'; refine listF_nil ?_
 repeat ((fail_if_success refine stp ?_); with_reducible go_step)
 have hc0_0 := hid sl0; have hc0_1 := hid sl1; have hc0_7 := hid sl7; refine loop_F (n := 19) (fun kJ sJ wJ => ∃ (i : Nat), kJ = l.length - i ∧ sJ 8 = .int .i64 (i : Int) ∧ sJ 0 = s2 0 ∧ sJ 1 = s2 1 ∧ sJ 7 = s2 7 ∧ OldB [] w wJ ∧ i ≤ l.length ∧ Hid ((l.take i).any (badC k) = false)) ⟨0, rfl, (by first | exact sl8 | (rw [sl8]; go_num) | (rw [sl8]; rfl)), rfl, rfl, rfl, OldB.refl _ _, Nat.zero_le _, hid rfl⟩ ?_; clear sl8; rintro kJ s3 w4 ⟨i, rfl, sl8, e0, e1, e7, hb5, hkl, hno⟩; replace sl0 := e0.trans sl0; clear e0; replace sl1 := e1.trans sl1; clear e1; replace sl7 := e7.trans sl7; clear e7; have hoJ := hb5; replace HB := hid (HB.out.more hb5 (by simp; try omega)); clear hb5; have HoJ := hid hoJ; clear hoJ; have HL6 := HoJ; clear HoJ
 repeat ((fail_if_success refine stp ?_); with_reducible go_step)
 refine region_F ?_; refine pl ?_; refine listF_abs (fun s7 z' => ?_); replace sl0 := gs 0 z' sl0; replace sl1 := gs 1 z' sl1; replace sl7 := gs 7 z' sl7; replace sl8 := gs 8 z' sl8; have sl9 := gu 9 z'; clear z'; refine listF_nil ?_
 repeat ((fail_if_success refine stp ?_); with_reducible go_step)
 refine cond_E sl9 (by decide) ?_ ?_ <;> (clear sl9; intro h9 sl9)
 ·skip
  have hlt : i < l.length := by simpa using h9
  obtain ⟨b, off, rfl, hb, h0, h1, h2⟩ := RdCks.ne (Rd.oldB HRl.out HB.out (by simp)) hlt
  repeat ((fail_if_success refine stp ?_); with_reducible go_step)
  refine region_F ?_; refine pl ?_; refine pl ?_; refine listF_abs (fun s8 z' => ?_); replace sl0 := gs 0 z' sl0; replace sl1 := gs 1 z' sl1; have sl5 := gu 5 z'; replace sl7 := gs 7 z' sl7; replace sl8 := gs 8 z' sl8; clear z' sl9; refine listF_nil ?_
  repeat ((fail_if_success refine stp ?_); with_reducible go_step)
  refine region_F ?_
  iterate 5 refine pl ?_
  refine listF_step rfl (fun K' hK => ?_); unfold opF; go_simp; refine (look1_any l[i] P V k a c s h _ (HP.out.at HB.out.toBelow) (HV.out.at HB.out.toBelow) (Rd.at HR.out HB.out.toBelow) HK.out).mono ?_; rintro e w9 ⟨rfl, hb10⟩; refine ⟨_, rfl, hK _ _ ?_⟩; clear hK K'; replace HL6 := hid (HL6.out.below hb10); replace HB := hid (HB.out.below hb10); clear hb10; refine listF_abs (fun s11 z' => ?_); replace sl0 := gs 0 z' sl0; replace sl1 := gs 1 z' sl1; replace sl5 := gs 5 z' sl5; replace sl7 := gs 7 z' sl7; replace sl8 := gs 8 z' sl8; have sl16 := gu 16 z'; clear z'; refine listF_nil ?_
  repeat ((fail_if_success refine stp ?_); with_reducible go_step)
  refine cond_E sl16 (by decide) ?_ ?_ <;> (clear sl16; intro h16 sl16)
  ·skip
   have Hpk := hid (idx_found hlt hno.out h16)
   repeat ((fail_if_success refine stp ?_); with_reducible go_step)
   refine region_F ?_; refine pl ?_; refine pl ?_; refine listF_abs (fun s12 z' => ?_); have sl4 := gu 4 z'; clear z' sl0 sl1 sl5 sl7 sl8 sl16; refine listF_nil ?_
   repeat ((fail_if_success refine stp ?_); with_reducible go_step)
   refine ret_F _ (res_t Try.results82 ((getD_F (by decide)).trans sl4)) ?_; exact ⟨ret_int Hpk.out.symm, HB.out.toBelow⟩
  ·skip
   have hpk := hid h16
   repeat ((fail_if_success refine stp ?_); with_reducible go_step)
   refine region_F ?_; refine pl ?_; refine pl ?_; refine listF_abs (fun s13 z' => ?_); replace sl0 := gs 0 z' sl0; replace sl1 := gs 1 z' sl1; replace sl7 := gs 7 z' sl7; replace sl8 := gu 8 z'; clear z' sl5 sl16; refine listF_nil ?_
   repeat ((fail_if_success refine stp ?_); with_reducible go_step)
   refine ⟨_, _, rfl, ?_, i + 1, rfl, (by first | (with_reducible exact sl8) | (rw [sl8]; (with_reducible go_num); done) | (rw [sl8, IntWalk.i64_in] <;> first | ((with_reducible go_num); done) | omega) | (rw [sl8]; go_num; done) | (rw [sl8]; simp; done) | (rw [sl8]; simp; omega)), (sl0.trans hc0_0.out.symm), (sl1.trans hc0_1.out.symm), (sl7.trans hc0_7.out.symm), HL6.out, by omega, hid (by rw [any_take_succ _ _ _ hlt, hno.out, hpk.out]; rfl)⟩
   omega
 ·skip
  have hge : l.length ≤ i := by simpa using h9
  have hno2 : l.any (badC k) = false := by have := hno.out; rwa [List.take_of_length_le hge] at this
  have Hno := hid hno2; clear hno2
  repeat ((fail_if_success refine stp ?_); with_reducible go_step)
  clear HL6; clear hc0_0 hc0_1 hc0_7; refine region_F ?_; refine pl ?_; refine listF_abs (fun s14 z' => ?_); have sl4 := gu 4 z'; clear z' sl0 sl1 sl7 sl8 sl9; refine listF_nil ?_
  repeat ((fail_if_success refine stp ?_); with_reducible go_step)
  refine ret_F _ (res_t Try.results82 ((getD_F (by decide)).trans sl4)) ?_; exact ⟨ret_int (idx_none Hno.out).symm, HB.out.toBelow⟩

set_option maxRecDepth 100000 in
set_option maxHeartbeats 1000000 in
theorem conCk_any (al : Option Addr) (cl : Nat) (l : List MCk) (P V : Nat) (k : Kd) (a : Option Addr) (c : Nat) (s : Span) (h : Int) (w : World) (hl : l.length ≤ 9223372036854775807) (hRl : RdCks w al l) (hP : Cells w P [.pointer (some ⟨V, 0, none⟩)]) (hV : Cells w V (vC k a c s h)) (hR : RdSteps w a k.steps) (hK : KOk k) :
    Calls Try.prog 70 #[.slice al l.length cl, .func (.func 71) #[] #[.pointer (some ⟨P, 0, none⟩)]] w (fun e w' => e = .returned (.bool (l.any (badC k))) ∧ Below w.heap.size w w') := by
 have HRl := hid hRl; have HR := hid hR; have HK := hid hK; have HP := hid hP; have HV := hid hV; clear hR hK hP hV hRl
 refine enter_F Try.func70 rfl Try.ntmps70 (by simp) ?_
 intro s0 hs; have sl0 : s0 0 = .slice al l.length cl := hs 0 (by simp); have sl1 : s0 1 = .func (.func 71) #[] #[.pointer (some ⟨P, 0, none⟩)] := hs 1 (by simp); clear hs; have HB := hid (OldB.refl [] w)
 repeat ((fail_if_success refine stp ?_); with_reducible go_step)
 refine region_F ?_; refine pl ?_; refine listF_abs (fun s1 z' => ?_); replace sl0 := gs 0 z' sl0; replace sl1 := gs 1 z' sl1; clear z'; refine listF_nil ?_
 repeat ((fail_if_success refine stp ?_); with_reducible go_step)
 refine region_F ?_; refine pl ?_; refine pl ?_; refine listF_step rfl (fun K' hK => ?_); unfold opF; go_simp; refine (idxCk_any al cl l P V k a c s h _ hl HRl.out HP.out HV.out HR.out HK.out).mono ?_; rintro e w2 ⟨rfl, hb3⟩; refine ⟨_, rfl, hK _ _ ?_⟩; clear hK K'; replace HB := hid (HB.out.below hb3); clear hb3; refine pl ?_; refine pl ?_; refine listF_abs (fun s4 z' => ?_); have sl4 := gu 4 z'; clear z' sl0 sl1; refine listF_nil ?_
 repeat ((fail_if_success refine stp ?_); with_reducible go_step)
 refine ret_F _ (res_t Try.results70 ((getD_F (by decide)).trans sl4)) ?_; exact ⟨ret_bool (idx_any' _ _), HB.out.toBelow⟩


def spanOk (s : Span) : Prop := (-1 ≤ s.lo ∧ s.lo ≤ 1000000) ∧ (-1 ≤ s.hi ∧ s.hi ≤ 1000000)
theorem spanOk.in {s : Span} (h : spanOk s) : spanIn s := by obtain ⟨⟨h1, h2⟩, h3, h4⟩ := h; exact ⟨⟨by omega, by omega⟩, by omega, by omega⟩
theorem later_ok {k : Kd} {s : Span} {d : Int} (hK : KOk k) (h : spanOk s) (hd : 0 ≤ d) : spanOk (later k s d) := by
  obtain ⟨⟨h1, h2⟩, h3, h4⟩ := h; have a1 : 0 ≤ d * k.wear.hi := Int.mul_nonneg hd (by have := hK.w0; have := hK.w1; omega); have a2 : 0 ≤ d * k.wear.lo := Int.mul_nonneg hd hK.w0; unfold later spanOk
  simp only
  omega
theorem agreed_ok {k : Kd} {s : Span} {v : Int} {p : Bool} (hK : KOk k) (h : spanOk s) (hv : voltOk k v = true) : spanOk (agreed k s v p) := by
  obtain ⟨⟨h1, h2⟩, h3, h4⟩ := h; have := needed_bd hK hv; unfold agreed spanOk
  split <;> simp only <;> omega
theorem new_ok {k : Kd} (hK : KOk k) : spanOk ⟨k.new, k.new⟩ := by have := hK.n0; have := hK.n1; unfold spanOk; simp only; omega
def runN (k : Kd) (l : List MCk) (i : Nat) : Option (Span × Int) := runC k (l.take i) (⟨k.new, k.new⟩, 0)
theorem runN_step {k : Kd} {l : List MCk} {i : Nat} (hi : i < l.length) {s : Span} {h : Int} (hr : runN k l i = some (s, h)) :
    runN k l (i + 1) = if (agreed k (later k s (l[i].hour - h)) l[i].volt l[i].passed).hi < (agreed k (later k s (l[i].hour - h)) l[i].volt l[i].passed).lo then none else some (agreed k (later k s (l[i].hour - h)) l[i].volt l[i].passed, l[i].hour) := by
  unfold runN at *; rw [List.take_succ_eq_append_getElem hi, runC_snoc, hr]
  rfl
theorem runC_none {k : Kd} : ∀ (l1 l2 : List MCk) (x : Span × Int), runC k l1 x = none → runC k (l1 ++ l2) x = none
  | [], l2, x, h => by cases h
  | c :: l1, l2, (s, h0), h => by
    simp only [List.cons_append, runC] at h ⊢
    split
    · rfl
    · rename_i hn; rw [if_neg hn] at h; exact runC_none l1 l2 _ h
theorem runN_none {k : Kd} {l : List MCk} {i : Nat} (h : runN k l i = none) : runC k l (⟨k.new, k.new⟩, 0) = none := by
  have := runC_none (l.take i) (l.drop i) _ h; rwa [List.take_append_drop] at this
theorem runN_all {k : Kd} {l : List MCk} {i : Nat} (hi : l.length ≤ i) {x : Span × Int} (h : runN k l i = some x) : runC k l (⟨k.new, k.new⟩, 0) = some x := by
  unfold runN at h; rwa [List.take_of_length_le hi] at h
/-- the hours up to i come before those from i on -/
def HrLe (l : List MCk) (i : Nat) (h : Int) : Prop := ∀ j (hj : j < l.length), i ≤ j → h ≤ l[j].hour
theorem hrLe_next {l : List MCk} {i : Nat} (hs : SortedC l) (hi : i < l.length) : HrLe l (i + 1) l[i].hour := by
  intro j hj hij; exact List.pairwise_iff_getElem.1 hs i j hi hj (by omega)
theorem asked_1 {k : Kd} {cs : List MCk} {h : Int} (he : kdErr k ≠ 0) : asked k cs h = (Span.zero, kdErr k) := by unfold asked; rw [if_pos he]
theorem asked_2 {k : Kd} {cs : List MCk} {h : Int} (he : kdErr k = 0) (hl : 30 < cs.length) : asked k cs h = (Span.zero, 3) := by unfold asked; rw [if_neg (by simp [he]), if_pos hl]
theorem asked_3 {k : Kd} {cs : List MCk} {h : Int} (he : kdErr k = 0) (hl : ¬ 30 < cs.length) (hb : cs.any (badC k) = true) : asked k cs h = (Span.zero, 7) := by unfold asked; rw [if_neg (by simp [he]), if_neg hl, if_pos hb]
theorem asked_4 {k : Kd} {cs : List MCk} {h : Int} (he : kdErr k = 0) (hl : ¬ 30 < cs.length) (hb : cs.any (badC k) = false) (hk : known k cs = none) : asked k cs h = (Span.zero, 9) := by unfold asked; rw [if_neg (by simp [he]), if_neg hl, if_neg (by rw [hb]; decide), hk]
theorem asked_5 {k : Kd} {cs : List MCk} {h : Int} (he : kdErr k = 0) (hl : ¬ 30 < cs.length) (hb : cs.any (badC k) = false) {s : Span} {t : Int} (hk : known k cs = some (s, t)) : asked k cs h = if inb h 0 100000 = false then (Span.zero, 7) else if h < t then (Span.zero, 2) else (later k s (h - t), 0) := by unfold asked; rw [if_neg (by simp [he]), if_neg hl, if_neg (by rw [hb]; decide), hk]
theorem not_bad {k : Kd} {cs : List MCk} (h : cs.any (badC k) = false) : ∀ x ∈ cs, chkOk k x = true := by
  intro x hx; rw [List.any_eq_false] at h
  simpa using h x hx
/-- look: the valve at the hour, or the error -/
def LookRes (k : Kd) (a : Option Addr) (c : Nat) (cs : List MCk) (h : Int) (w : World) (e : Ending) (w' : World) : Prop :=
  (∃ V, (asked k cs h).2 = 0 ∧ e = .returned (.tuple #[.pointer (some ⟨V, 0, none⟩), .int .i64 0]) ∧ w.heap.size ≤ V ∧ Cells w' V (vC k a c (asked k cs h).1 h) ∧ Below w.heap.size w w') ∨
  ((asked k cs h).2 ≠ 0 ∧ e = .returned (.tuple #[.pointer none, .int .i64 (asked k cs h).2]) ∧ Below w.heap.size w w')
theorem look_no {k : Kd} {a : Option Addr} {c : Nat} {cs : List MCk} {h : Int} {w w' : World} {n : Int} (ha : asked k cs h = (Span.zero, n)) (hn : n ≠ 0) (hb : Below w.heap.size w w') : LookRes k a c cs h w (.returned (.tuple #[.pointer none, .int .i64 n])) w' :=
  .inr ⟨by rw [ha]; exact hn, by rw [ha], hb⟩

end Go.Proofs.Ytndcmmghgljinaa
