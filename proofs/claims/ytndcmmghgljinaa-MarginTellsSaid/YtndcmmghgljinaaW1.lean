/- The contracts of the small functions. -/
import Derived.Test.YtndcmmghgljinaaG5
import Derived.Test.YtndcmmghgljinaaM6
set_option linter.all false
namespace Go.Proofs.Ytndcmmghgljinaa
open Go.RowKit

abbrev Stp.cs (s : Stp) : List Value := [.int .i64 s.volt, .int .i64 s.need]
abbrev RdSteps := Rd Stp.cs 2
abbrev MCk.cs (c : MCk) : List Value := [.int .i64 c.hour, .int .i64 c.volt, .bool c.passed]
abbrev RdCks := Rd MCk.cs 3
abbrev Span.cs (s : Span) : List Value := [.int .i64 s.lo, .int .i64 s.hi]
abbrev RdSpans := Rd Span.cs 2
abbrev int1 (n : Int) : List Value := [.int .i64 n]
abbrev RdInts := Rd int1 1
theorem RdInts.ne {w : World} {a : Option Addr} {l : List Int} (h : RdInts w a l) {k : Nat} (hk : k < l.length) :
    ∃ b off, a = some ⟨b, off, none⟩ ∧ b < w.heap.size ∧ w.cell? ⟨b, off + k, none⟩ = some (.int .i64 l[k]) := by
  obtain ⟨b, off, ha, hb, hc⟩ := Rd.ne h hk; exact ⟨b, off, ha, hb, by simpa using hc 0 _ rfl⟩
theorem RdSteps.ne {w : World} {a : Option Addr} {l : List Stp} (h : RdSteps w a l) {k : Nat} (hk : k < l.length) :
    ∃ b off, a = some ⟨b, off, none⟩ ∧ b < w.heap.size ∧ w.cell? ⟨b, off + k * 2, none⟩ = some (.int .i64 l[k].volt) ∧ w.cell? ⟨b, off + k * 2 + 1, none⟩ = some (.int .i64 l[k].need) := by
  obtain ⟨b, off, ha, hb, hc⟩ := Rd.ne h hk; exact ⟨b, off, ha, hb, hc 0 _ rfl, hc 1 _ rfl⟩
theorem RdSpans.ne {w : World} {a : Option Addr} {l : List Span} (h : RdSpans w a l) {k : Nat} (hk : k < l.length) :
    ∃ b off, a = some ⟨b, off, none⟩ ∧ b < w.heap.size ∧ w.cell? ⟨b, off + k * 2, none⟩ = some (.int .i64 l[k].lo) ∧ w.cell? ⟨b, off + k * 2 + 1, none⟩ = some (.int .i64 l[k].hi) := by
  obtain ⟨b, off, ha, hb, hc⟩ := Rd.ne h hk; exact ⟨b, off, ha, hb, hc 0 _ rfl, hc 1 _ rfl⟩
theorem RdCks.ne {w : World} {a : Option Addr} {l : List MCk} (h : RdCks w a l) {k : Nat} (hk : k < l.length) :
    ∃ b off, a = some ⟨b, off, none⟩ ∧ b < w.heap.size ∧ w.cell? ⟨b, off + k * 3, none⟩ = some (.int .i64 l[k].hour) ∧ w.cell? ⟨b, off + k * 3 + 1, none⟩ = some (.int .i64 l[k].volt) ∧ w.cell? ⟨b, off + k * 3 + 2, none⟩ = some (.bool l[k].passed) := by
  obtain ⟨b, off, ha, hb, hc⟩ := Rd.ne h hk; exact ⟨b, off, ha, hb, hc 0 _ rfl, hc 1 _ rfl, hc 2 _ rfl⟩
/-- the first one with p; -1: none -/
def idxOf {α : Type} (p : α → Bool) (l : List α) : Int := match l.findIdx? p with | some i => i | none => -1
theorem idx_found {α : Type} {p : α → Bool} {l : List α} {k : Nat} (hk : k < l.length) (h : (l.take k).any p = false) (hp : p l[k] = true) : idxOf p l = k := by
  have : l.findIdx? p = some k := by
    rw [List.findIdx?_eq_some_iff_getElem]; refine ⟨hk, hp, fun j hj => ?_⟩; rw [List.any_eq_false] at h
    exact by simpa using h l[j] (List.mem_take_iff_getElem.2 ⟨j, by omega, rfl⟩)
  unfold idxOf; rw [this]
theorem idx_none {α : Type} {p : α → Bool} {l : List α} (h : l.any p = false) : idxOf p l = -1 := by
  have : l.findIdx? p = none := by
    rw [List.findIdx?_eq_none_iff]; intro x hx; rw [List.any_eq_false] at h
    simpa using h x hx
  unfold idxOf; rw [this]
theorem idx_any {α : Type} (p : α → Bool) (l : List α) : decide (0 ≤ idxOf p l) = l.any p := by
  cases h : l.any p with
  | false => rw [idx_none h]; rfl
  | true =>
    unfold idxOf
    cases hf : l.findIdx? p with
    | none =>
      rw [List.findIdx?_eq_none_iff] at hf; rw [List.any_eq_true] at h; obtain ⟨x, hx, hp⟩ := h; rw [hf x hx] at hp; cases hp
    | some i => simp

theorem load_t23 {w : World} {b o : Nat} {x0 x1 : Value} (h0 : w.cell? ⟨b, o, none⟩ = some x0) (h1 : w.cell? ⟨b, o + 1, none⟩ = some x1) :
    (loadVar 23 ⟨b, o, none⟩).run Try.prog w = .ok (.agg #[x0, x1]) w := by
  simp [go_sem, h0, h1]
theorem load_t37 {w : World} {b o : Nat} {x0 x1 : Value} (h0 : w.cell? ⟨b, o, none⟩ = some x0) (h1 : w.cell? ⟨b, o + 1, none⟩ = some x1) :
    (loadVar 37 ⟨b, o, none⟩).run Try.prog w = .ok (.agg #[x0, x1]) w := by
  simp [go_sem, h0, h1]

set_option maxRecDepth 100000 in
set_option maxHeartbeats 1000000 in
theorem rin_any (n a b : Int) (w : World) :
    Calls Try.prog 52 #[.int .i64 n, .int .i64 a, .int .i64 b] w (fun e w' => e = .returned (.bool (inb n a b)) ∧ w = w') := by
 refine enter_F Try.func52 rfl Try.ntmps52 (by simp) ?_
 intro s0 hs; have sl0 : s0 0 = .int .i64 n := hs 0 (by simp); have sl1 : s0 1 = .int .i64 a := hs 1 (by simp); have sl2 : s0 2 = .int .i64 b := hs 2 (by simp); clear hs; have HB := hid (OldB.refl [] w)
 repeat ((fail_if_success refine stp ?_); with_reducible go_step)
 refine region_F ?_; refine pl ?_; refine listF_abs (fun s1 z' => ?_); replace sl0 := gs 0 z' sl0; replace sl1 := gs 1 z' sl1; replace sl2 := gs 2 z' sl2; clear z'; refine listF_nil ?_
 repeat ((fail_if_success refine stp ?_); with_reducible go_step)
 refine region_F ?_
 iterate 4 refine pl ?_
 refine listF_abs (fun s2 z' => ?_); replace sl0 := gs 0 z' sl0; replace sl2 := gs 2 z' sl2; have sl10 := gu 10 z'; clear z' sl1
 refine boolG sl10 (fun sl10' h10 => ?_) (fun sl10' h10 => ?_) <;> (clear sl10; have sl10 := sl10'; clear sl10')
 ·skip
  iterate 3 refine py ?_
  refine pl ?_; refine pl ?_; refine listF_abs (fun s3 z' => ?_); have sl6 := gu 6 z'; clear z' sl0 sl2 sl10; refine listF_nil ?_
  repeat ((fail_if_success refine stp ?_); with_reducible go_step)
  refine ret_F _ (res_t Try.results52 ((getD_F (by decide)).trans sl6)) ?_; exact ⟨ret_bool (by unfold inb; simp at *; try omega), rfl⟩
 ·skip
  refine pn false ?_; refine pn false ?_; refine pn false ?_; refine pl ?_; refine pl ?_; refine listF_abs (fun s4 z' => ?_); have sl6 := gu 6 z'; clear z' sl0 sl2 sl10; refine listF_nil ?_
  repeat ((fail_if_success refine stp ?_); with_reducible go_step)
  refine ret_F _ (res_t Try.results52 ((getD_F (by decide)).trans sl6)) ?_; exact ⟨ret_bool (by unfold inb; simp at *; try omega), rfl⟩

set_option maxRecDepth 100000 in
set_option maxHeartbeats 1000000 in
theorem out1_any (hi n : Int) (B : Nat) (w : World) (hB : w.cell? ⟨B, 0, none⟩ = some (.int .i64 hi)) :
    Calls Try.prog 69 #[.int .i64 n, .pointer (some ⟨B, 0, none⟩)] w (fun e w' => e = .returned (.bool (!inb n 0 hi)) ∧ w = w') := by
 refine enter_F Try.func69 rfl Try.ntmps69 (by simp) ?_
 intro s0 hs; have sl0 : s0 0 = .int .i64 n := hs 0 (by simp); have sl1 : s0 1 = .pointer (some ⟨B, 0, none⟩) := hs 1 (by simp); clear hs; have HB := hid (OldB.refl [] w)
 repeat ((fail_if_success refine stp ?_); with_reducible go_step)
 refine region_F ?_; refine pl ?_; refine listF_abs (fun s1 z' => ?_); replace sl0 := gs 0 z' sl0; replace sl1 := gs 1 z' sl1; clear z'; refine listF_nil ?_
 repeat ((fail_if_success refine stp ?_); with_reducible go_step)
 refine region_F ?_
 iterate 3 refine pl ?_
 refine listF_abs (fun s2 z' => ?_); replace sl0 := gs 0 z' sl0; replace sl1 := gs 1 z' sl1; have sl6 := gu 6 z'; clear z'
 refine boolG sl6 (fun sl6' h6 => ?_) (fun sl6' h6 => ?_) <;> (clear sl6; have sl6 := sl6'; clear sl6')
 ·skip
  refine pn true ?_; refine pn true ?_; refine pn true ?_; refine pl ?_; refine pl ?_; refine listF_abs (fun s3 z' => ?_); have sl3 := gu 3 z'; clear z' sl0 sl1 sl6; refine listF_nil ?_
  repeat ((fail_if_success refine stp ?_); with_reducible go_step)
  refine ret_F _ (res_t Try.results69 ((getD_F (by decide)).trans sl3)) ?_; exact ⟨ret_bool (by unfold inb; rw [Bool.eq_iff_iff]; simp at *; try omega), rfl⟩
 ·skip
  iterate 3 refine py ?_
  refine pl ?_; refine pl ?_; refine listF_abs (fun s4 z' => ?_); have sl3 := gu 3 z'; clear z' sl0 sl1 sl6; refine listF_nil ?_
  repeat ((fail_if_success refine stp ?_); with_reducible go_step)
  refine ret_F _ (res_t Try.results69 ((getD_F (by decide)).trans sl3)) ?_; exact ⟨ret_bool (by unfold inb; rw [Bool.eq_iff_iff]; simp at *; try omega), rfl⟩

set_option maxRecDepth 100000 in
set_option maxHeartbeats 1000000 in
theorem idxInt_any (a : Option Addr) (c : Nat) (l : List Int) (hi : Int) (B : Nat) (w : World) (hl : l.length ≤ 9223372036854775807) (hR : RdInts w a l) (hB : w.cell? ⟨B, 0, none⟩ = some (.int .i64 hi)) (hBs : B < w.heap.size) :
    Calls Try.prog 81 #[.slice a l.length c, .func (.func 69) #[] #[.pointer (some ⟨B, 0, none⟩)]] w (fun e w' => e = .returned (.int .i64 (idxOf (fun n => !inb n 0 hi) l)) ∧ Below w.heap.size w w') := by
 have HR := hid hR; clear hR
 refine enter_F Try.func81 rfl Try.ntmps81 (by simp) ?_
 intro s0 hs; have sl0 : s0 0 = .slice a l.length c := hs 0 (by simp); have sl1 : s0 1 = .func (.func 69) #[] #[.pointer (some ⟨B, 0, none⟩)] := hs 1 (by simp); clear hs; have HB := hid (OldB.refl [] w)
 repeat ((fail_if_success refine stp ?_); with_reducible go_step)
 refine region_F ?_; refine pl ?_; refine listF_abs (fun s1 z' => ?_); replace sl0 := gs 0 z' sl0; replace sl1 := gs 1 z' sl1; clear z'; refine listF_nil ?_
 repeat ((fail_if_success refine stp ?_); with_reducible go_step)
 refine region_F ?_
 iterate 3 refine pl ?_
 refine listF_abs (fun s2 z' => ?_); replace sl0 := gs 0 z' sl0; replace sl1 := gs 1 z' sl1; have sl7 := gu 7 z'; have sl8 := gu 8 z'; clear z'; refine listF_nil ?_
 repeat ((fail_if_success refine stp ?_); with_reducible go_step)
 have hc0_0 := hid sl0; have hc0_1 := hid sl1; have hc0_7 := hid sl7; refine loop_F (n := 19) (fun kJ sJ wJ => ∃ (k : Nat), kJ = l.length - k ∧ sJ 8 = .int .i64 (k : Int) ∧ sJ 0 = s2 0 ∧ sJ 1 = s2 1 ∧ sJ 7 = s2 7 ∧ OldB [] w wJ ∧ k ≤ l.length ∧ Hid ((l.take k).any (fun n => !inb n 0 hi) = false)) ⟨0, rfl, (by first | exact sl8 | (rw [sl8]; go_num) | (rw [sl8]; rfl)), rfl, rfl, rfl, OldB.refl _ _, Nat.zero_le _, hid rfl⟩ ?_; clear sl8; rintro kJ s3 w4 ⟨k, rfl, sl8, e0, e1, e7, hb5, hkl, hno⟩; replace sl0 := e0.trans sl0; clear e0; replace sl1 := e1.trans sl1; clear e1; replace sl7 := e7.trans sl7; clear e7; have hoJ := hb5; replace HB := hid (HB.out.more hb5 (by simp; try omega)); clear hb5; have HoJ := hid hoJ; clear hoJ; have HL6 := HoJ; clear HoJ
 repeat ((fail_if_success refine stp ?_); with_reducible go_step)
 refine region_F ?_; refine pl ?_; refine listF_abs (fun s7 z' => ?_); replace sl0 := gs 0 z' sl0; replace sl1 := gs 1 z' sl1; replace sl7 := gs 7 z' sl7; replace sl8 := gs 8 z' sl8; have sl9 := gu 9 z'; clear z'; refine listF_nil ?_
 repeat ((fail_if_success refine stp ?_); with_reducible go_step)
 refine cond_E sl9 (by decide) ?_ ?_ <;> (clear sl9; intro h9 sl9)
 ·skip
  have hlt : k < l.length := by simpa using h9
  obtain ⟨b, off, rfl, hb, h0⟩ := RdInts.ne (Rd.oldB HR.out HB.out (by simp)) hlt
  repeat ((fail_if_success refine stp ?_); with_reducible go_step)
  refine region_F ?_; refine pl ?_; refine pl ?_; refine listF_abs (fun s8 z' => ?_); replace sl0 := gs 0 z' sl0; replace sl1 := gs 1 z' sl1; have sl5 := gu 5 z'; replace sl7 := gs 7 z' sl7; replace sl8 := gs 8 z' sl8; clear z' sl9; refine listF_nil ?_
  repeat ((fail_if_success refine stp ?_); with_reducible go_step)
  refine region_F ?_
  iterate 5 refine pl ?_
  refine listF_step rfl (fun K' hK => ?_); unfold opF; go_simp; refine (out1_any hi l[k] B _ ((HB.out.toBelow.cell (p := ⟨B, 0, none⟩) hBs).trans hB)).mono ?_; rintro e w' ⟨rfl, rfl⟩; refine ⟨_, rfl, hK _ _ ?_⟩; clear hK K'; refine listF_abs (fun s10 z' => ?_); replace sl0 := gs 0 z' sl0; replace sl1 := gs 1 z' sl1; replace sl5 := gs 5 z' sl5; replace sl7 := gs 7 z' sl7; replace sl8 := gs 8 z' sl8; have sl16 := gu 16 z'; clear z'; refine listF_nil ?_
  repeat ((fail_if_success refine stp ?_); with_reducible go_step)
  refine cond_E sl16 (by decide) ?_ ?_ <;> (clear sl16; intro h16 sl16)
  ·skip
   have Hpk := hid (idx_found hlt hno.out h16)
   repeat ((fail_if_success refine stp ?_); with_reducible go_step)
   refine region_F ?_; refine pl ?_; refine pl ?_; refine listF_abs (fun s11 z' => ?_); have sl4 := gu 4 z'; clear z' sl0 sl1 sl5 sl7 sl8 sl16; refine listF_nil ?_
   repeat ((fail_if_success refine stp ?_); with_reducible go_step)
   refine ret_F _ (res_t Try.results81 ((getD_F (by decide)).trans sl4)) ?_; exact ⟨ret_int Hpk.out.symm, HB.out.toBelow⟩
  ·skip
   have hpk := hid h16
   repeat ((fail_if_success refine stp ?_); with_reducible go_step)
   refine region_F ?_; refine pl ?_; refine pl ?_; refine listF_abs (fun s12 z' => ?_); replace sl0 := gs 0 z' sl0; replace sl1 := gs 1 z' sl1; replace sl7 := gs 7 z' sl7; replace sl8 := gu 8 z'; clear z' sl5 sl16; refine listF_nil ?_
   repeat ((fail_if_success refine stp ?_); with_reducible go_step)
   refine ⟨_, _, rfl, ?_, k + 1, rfl, (by first | (with_reducible exact sl8) | (rw [sl8]; (with_reducible go_num); done) | (rw [sl8, IntWalk.i64_in] <;> first | ((with_reducible go_num); done) | omega) | (rw [sl8]; go_num; done) | (rw [sl8]; simp; done) | (rw [sl8]; simp; omega)), (sl0.trans hc0_0.out.symm), (sl1.trans hc0_1.out.symm), (sl7.trans hc0_7.out.symm), HL6.out, by omega, hid (by rw [any_take_succ _ _ _ hlt, hno.out, hpk.out]; rfl)⟩
   omega
 ·skip
  have hge : l.length ≤ k := by simpa using h9
  have hno2 : l.any (fun n => !inb n 0 hi) = false := by have := hno.out; rwa [List.take_of_length_le hge] at this
  have Hno := hid hno2; clear hno2
  repeat ((fail_if_success refine stp ?_); with_reducible go_step)
  clear HL6; clear hc0_0 hc0_1 hc0_7; refine region_F ?_; refine pl ?_; refine listF_abs (fun s13 z' => ?_); have sl4 := gu 4 z'; clear z' sl0 sl1 sl7 sl8 sl9; refine listF_nil ?_
  repeat ((fail_if_success refine stp ?_); with_reducible go_step)
  refine ret_F _ (res_t Try.results81 ((getD_F (by decide)).trans sl4)) ?_; exact ⟨ret_int (idx_none Hno.out).symm, HB.out.toBelow⟩

end Go.Proofs.Ytndcmmghgljinaa
