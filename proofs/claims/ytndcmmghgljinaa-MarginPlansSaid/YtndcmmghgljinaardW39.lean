/- Replace: what holds in memory between two rounds. -/
import Derived.Test.YtndcmmghgljinaardW37
import Derived.Test.YtndcmmghgljinaardW36
import Derived.Lib.SliceRun
set_option linter.all false
namespace Go.Proofs.Ytndcmmghgljinaa

section
open Go.RowKit


def errPanic (r : Bool) : List PanicEntry := [{ v := .iface 27 (.int .i64 9), recovered := r }]
set_option maxRecDepth 100000 in
theorem rep1_pan (B8 B9 : Nat) (x y : Value) (w : World) (k8 : Cells w B8 [x]) (k9 : Cells w B9 [y]) (h89 : ¬ B8 = B9) :
    CallsDIn Fence.wide 0 Try.prog 60 #[.pointer (some ⟨B8, 0, none⟩), .pointer (some ⟨B9, 0, none⟩)] (.panicking (errPanic false)) w fun e u' w' => e = .returned (.tuple #[]) ∧ u' = .panicking (errPanic true) ∧ Cells w' B8 [.slice none 0 0] ∧ Cells w' B9 [.int .i64 9] ∧ OldB [B8, B9] w w' := by
  refine callsDIn_of_wpSIn Try.func60 rfl trivial fun c₀ cs hu => ?_
  apply wpSIn_seq
  apply wpSIn_region
  have hu' : c₀.mode = .panicking [{ v := .iface 27 (.int .i64 9), recovered := false, goexit := false }] := hu
  simp [wpOpsSIn, go_sem, recoverD, hu', Try.ntmps60, Exit.thenS, Fence.wide]
  apply wpSIn_seq
  apply wpSIn_region
  simp [wpOpsSIn, go_sem, recoverD, hu', Try.ntmps60, Exit.thenS, Fence.wide]
  refine wpSIn_cond (t := true) (by simp [Act.eval, Array.replicate]) ?_
  simp only [if_true]
  refine wpSIn_of_wpIn rfl (wpIn_wide.2 (wp_toF (n := 8) rfl (by simp) fun s hs => ?_))
  have sl0 : s 0 = .pointer (some ⟨B8, 0, none⟩) := by rw [hs]; rfl
  have sl1 : s 1 = .pointer (some ⟨B9, 0, none⟩) := by rw [hs]; rfl
  have sl2 : s 2 = .iface 27 (.int .i64 9) := by rw [hs]; rfl
  clear hs; have q8 := k8.1; have q9 := k9.1; have c8 := k8.cell 0 rfl
  have h98 : ¬ B9 = B8 := fun e => h89 e.symm
  refine regionR_F [B8, B9] [[x], [y]] [4, 5] [.q [], .q [], .st 4] [?v1_0, ?v1_1, fun _ => undef] [fun _ => [], fun _ => [], ?c1_2] (by kernel_rfl) (by kernel_rfl) (by kernel_rfl) (by kernel_rfl) (by kernel_rfl) (by first | exact List.nodup_nil | exact List.nodup_singleton _ | (simp; done) | (simp; omega)) (bc_cons (by repeat (first | (with_reducible exact k8) | (with_reducible refine Cells.drew ?_) | (with_reducible refine Cells.up ?_ _) | (with_reducible refine Cells.setFar ?_ (by omega)))) (bc_cons (by repeat (first | (with_reducible exact k9) | (with_reducible refine Cells.drew ?_) | (with_reducible refine Cells.up ?_ _) | (with_reducible refine Cells.setFar ?_ (by omega)))) bc_nil)) ?walk1 ?dep1
  case walk1 =>
    refine rq ?_
    refine rq ?_
    refine walkR_st (by rfl) (fun X hX wq hwq hkq => ?_) ?_
    · rw [show X 4 = B8 from hX.at0 0 _ rfl] at hkq ⊢
      replace hkq : Cells wq B8 [x] := hkq
      have hks := hkq.1
      have hkz := hkq.2.2
      have hk0 := hkq.cell 0 rfl
      go_simp
      (first | ((with_reducible refine writeB_mk (Cells.set hkq) ?_ ?_); (focus (repeat (first | (with_reducible exact Only.refl _ _) | (with_reducible refine Only.set ?_)))); rfl) | ((with_reducible refine writeB_mk (Cells.set (Cells.set hkq)) ?_ ?_); (focus (repeat (first | (with_reducible exact Only.refl _ _) | (with_reducible refine Only.set ?_)))); rfl) | ((with_reducible refine writeB_mk (Cells.set (Cells.set (Cells.set hkq))) ?_ ?_); (focus (repeat (first | (with_reducible exact Only.refl _ _) | (with_reducible refine Only.set ?_)))); rfl) | ((with_reducible refine writeB_mk (Cells.set (Cells.set (Cells.set (Cells.set hkq)))) ?_ ?_); (focus (repeat (first | (with_reducible exact Only.refl _ _) | (with_reducible refine Only.set ?_)))); rfl) | ((with_reducible refine writeB_mk (Cells.set (Cells.set (Cells.set (Cells.set (Cells.set hkq))))) ?_ ?_); (focus (repeat (first | (with_reducible exact Only.refl _ _) | (with_reducible refine Only.set ?_)))); rfl) | ((with_reducible refine writeB_mk (Cells.set (Cells.set (Cells.set (Cells.set (Cells.set (Cells.set hkq)))))) ?_ ?_); (focus (repeat (first | (with_reducible exact Only.refl _ _) | (with_reducible refine Only.set ?_)))); rfl) | ((with_reducible refine writeB_mk (Cells.set (Cells.set (Cells.set (Cells.set (Cells.set (Cells.set (Cells.set hkq))))))) ?_ ?_); (focus (repeat (first | (with_reducible exact Only.refl _ _) | (with_reducible refine Only.set ?_)))); rfl) | ((with_reducible refine writeB_mk (Cells.set (Cells.set (Cells.set (Cells.set (Cells.set (Cells.set (Cells.set (Cells.set hkq)))))))) ?_ ?_); (focus (repeat (first | (with_reducible exact Only.refl _ _) | (with_reducible refine Only.set ?_)))); rfl))
    refine walkR_nil (fun X hX wz hwz hcz => ?_)
    have kz0 := hcz 4 (by simp)
    rw [show X 4 = B8 from hX.at0 0 _ rfl] at kz0
    simp only [updC_some, updC_none, Nat.reduceEqDiff, ↓reduceIte] at kz0
    have kz1 := hcz 5 (by simp)
    rw [show X 5 = B9 from hX.at0 1 _ rfl] at kz1
    replace kz1 : Cells wz B9 [y] := kz1
    clear hX hcz
    (try clear X)
    have y9 := kz1.cell 0 rfl
    have z9 := kz1.2.2
    have r9 := kz1.1
    have ho := hwz.unDrew
    have k8z := kz0
    clear hwz kz0
    refine pl ?_
    refine listF_nil ?_
    refine ⟨rfl, _, rfl, .tuple #[], res_none Try.results60, rfl, rfl, ?_, ?_, ?_⟩
    · exact k8z.setFar h89
    · exact Cells.set (i := 0) kz1
    · exact ho.set (by simp)
  case dep1 =>
    refine dR ?_
    refine dR ?_
    refine dR ?_
    exact depR_nil
theorem rep1_ret (B8 B9 : Nat) (w : World) : CallsDIn Fence.wide 0 Try.prog 60 #[.pointer (some ⟨B8, 0, none⟩), .pointer (some ⟨B9, 0, none⟩)] .returning w fun e u' w' => e = .returned (.tuple #[]) ∧ u' = .returning ∧ w' = w := by
  refine callsDIn_of_wpSIn Try.func60 rfl trivial fun c₀ cs hu => ?_
  apply wpSIn_seq
  apply wpSIn_region
  simp [wpOpsSIn, go_sem, recoverD, hu, Try.ntmps60, Exit.thenS, Fence.wide]
  apply wpSIn_seq
  apply wpSIn_region
  simp [wpOpsSIn, go_sem, recoverD, hu, Try.ntmps60, Exit.thenS, Fence.wide]
  refine wpSIn_cond (t := false) (by simp [Act.eval, Array.replicate]) ?_
  simp only [Bool.false_eq_true, if_false]
  refine wpSIn_of_wpIn rfl (wpIn_wide.2 (wp_skip ?_))
  cases c₀
  simp_all [bodyPostS, results, Try.results60]
/-- the deferred call -/
def repD (B8 B9 : Nat) : Deferred := { target := .fn (.func 60) #[.pointer (some ⟨B8, 0, none⟩), .pointer (some ⟨B9, 0, none⟩)], args := #[] }
theorem res_rep {tmps : Array Value} {w : World} {b1 b2 : Nat} {v : Value} {e : Int} (e1 : tmps.getD 8 undef = .pointer (some ⟨b1, 0, none⟩)) (e2 : tmps.getD 9 undef = .pointer (some ⟨b2, 0, none⟩)) (k1 : Cells w b1 [v]) (k2 : Cells w b2 [.int .i64 e]) (hv : v.oneCell' = true) :
    (results Try.f35 tmps).run Try.prog w = .ok (.tuple #[v, .int .i64 e]) w := by
  have c1 := k1.cell 0 rfl; have c2 := k2.cell 0 rfl
  simp only [Array.getD_eq_getD_getElem?] at *
  simp only [results, Try.results35]
  simp [Sem.run_bind, Result.andThen, e1, e2, asAddr, go_sem, c1, c2]
theorem rep_leave_ret {n : Nat} {s : Nat → Value} {w : World} {B8 B9 : Nat} {Ds : List Nat} {v : Value} {e : Int} {R : Ending → World → Prop} (hn : 9 < n) (sl8 : s 8 = .pointer (some ⟨B8, 0, none⟩)) (sl9 : s 9 = .pointer (some ⟨B9, 0, none⟩)) (hD : ∀ D ∈ Ds, w.heap[D]? = some (.deferred (some []))) (hd : Ds.Nodup)
    (k8 : Cells w B8 [v]) (k9 : Cells w B9 [.int .i64 e]) (n8 : B8 ∉ Ds) (n9 : B9 ∉ Ds) (hv : v.oneCell' = true) (hR : R (.returned (.tuple #[v, .int .i64 e])) (shut Ds w)) : bodyPostM Fence.wide 0 Try.prog Try.f35 R .ret (mkA n s (marks Ds [repD B8 B9])) w := by
  show LeavesInM Fence.wide 0 Try.prog Try.f35 (tmA n s) R (marks Ds [repD B8 B9]) .returning w
  refine leave_marks (by simp) Ds w hD hd ⟨by simp, .inr ⟨fun h => (by simp [Fence.wide] at h), .func 60, #[.pointer (some ⟨B8, 0, none⟩), .pointer (some ⟨B9, 0, none⟩)], 60, #[.pointer (some ⟨B8, 0, none⟩), .pointer (some ⟨B9, 0, none⟩)], rfl, by simp [repD, invoke, go_sem], fun _ _ => trivial, (rep1_ret B8 B9 _).mono ?_⟩⟩; rintro e' u' w' ⟨rfl, rfl, rfl⟩; exact ⟨_, res_rep ((getD_F (by omega)).trans sl8) ((getD_F (by omega)).trans sl9) (k8.shut n8) (k9.shut n9) hv, hR⟩
theorem rep_leave_pan {n : Nat} {s : Nat → Value} {w : World} {B8 B9 : Nat} {Ds : List Nat} {v y : Value} {R : Ending → World → Prop} (hn : 9 < n) (sl8 : s 8 = .pointer (some ⟨B8, 0, none⟩)) (sl9 : s 9 = .pointer (some ⟨B9, 0, none⟩)) (hD : ∀ D ∈ Ds, w.heap[D]? = some (.deferred (some []))) (hd : Ds.Nodup)
    (k8 : Cells w B8 [v]) (k9 : Cells w B9 [y]) (h89 : ¬ B8 = B9) (n8 : B8 ∉ Ds) (n9 : B9 ∉ Ds) (hR : ∀ w', OldB [B8, B9] (shut Ds w) w' → R (.returned (.tuple #[.slice none 0 0, .int .i64 9])) w') : bodyPostM Fence.wide 0 Try.prog Try.f35 R (.panic (errPanic false)) (mkA n s (marks Ds [repD B8 B9])) w := by
  show LeavesInM Fence.wide 0 Try.prog Try.f35 (tmA n s) R (marks Ds [repD B8 B9]) (.panicking (errPanic false)) w
  refine leave_marks (by simp) Ds w hD hd ⟨by simp, .inr ⟨fun h => (by simp [Fence.wide] at h), .func 60, #[.pointer (some ⟨B8, 0, none⟩), .pointer (some ⟨B9, 0, none⟩)], 60, #[.pointer (some ⟨B8, 0, none⟩), .pointer (some ⟨B9, 0, none⟩)], rfl, by simp [repD, invoke, go_sem], fun _ _ => trivial, (rep1_pan B8 B9 v y _ (k8.shut n8) (k9.shut n9) h89).mono ?_⟩⟩; rintro e' u' w' ⟨rfl, rfl, k8', k9', ho⟩; exact ⟨_, res_rep ((getD_F (by omega)).trans sl8) ((getD_F (by omega)).trans sl9) k8' k9' rfl, hR _ ho⟩
end

section
open Go.RowKit


theorem ints_cell {w : World} {g : Nat} {l : List Int} (h : Cells w g (l.flatMap int1)) {i : Nat} (hi : i < l.length) : w.cell? ⟨g, i, none⟩ = some (.int .i64 l[i]) := by
  have := h.2.1 (i * 1 + 0) _ (flat_get int1 1 (fun _ => rfl) l i l[i] (List.getElem?_eq_getElem hi) 0 _ rfl)
  simpa using this
theorem ints_set (x : Int) : ∀ (l : List Int) (i : Nat), (l.flatMap int1).set i (.int .i64 x) = (l.set i x).flatMap int1
  | [], i => by simp
  | y :: l, 0 => by simp
  | y :: l, i + 1 => by
    have ih := ints_set x l i
    simp only [List.set_cons_succ, List.flatMap_cons, int1, List.cons_append, List.nil_append] at *
    rw [ih]
theorem oldb_setCells {Bs : List Nat} {b : Nat} (hb : b ∈ Bs) : ∀ (l : List Value) (o : Nat) {w0 w : World}, OldB Bs w0 w → OldB Bs w0 (w.setCells b o l)
  | [], _, _, _, h => h
  | _ :: r, o, _, _, h => oldb_setCells hb r (o + 1) (h.set hb)
def CompactRes (g : Nat) (l : List Int) (w : World) (e : Ending) (w' : World) : Prop := ∃ n c, e = .returned (.slice (some ⟨g, 0, none⟩) n c) ∧ decide (n < l.length) = dups l ∧ n ≤ l.length ∧ OldB [g] w w'
theorem nodups {l : List Int} (h : ∀ j (h : j + 1 < l.length), ¬ l[j] = l[j + 1]) : dups l = false := by
  cases hd : dups l with
  | false => rfl
  | true => obtain ⟨i, hi, he⟩ := dups_iff.1 hd; exact absurd he (h i hi)

set_option maxRecDepth 100000 in
set_option maxHeartbeats 1000000 in
theorem compact_any (g cap : Nat) (l : List Int) (w : World) (hg : Cells w g (l.flatMap int1)) (hcap : l.length ≤ cap) (hll : l.length ≤ 1000) :
    Calls Try.prog 62 #[.slice (some ⟨g, 0, none⟩) l.length cap] w (CompactRes g l w) := by
 obtain ⟨i1, hi1, hz1, hy1, hx1⟩ := info_parts info_int
 have hzv : ∀ w, (zeroValue 3).run Try.prog w = .ok (.int .i64 0) w := fun w => by simp [zeroValue, typeInfo, hi1, hz1, go_sem]
 have kg := hg
 refine enter_F Try.func62 rfl Try.ntmps62 (by simp) ?_
 intro s0 hs; have sl0 : s0 0 = .slice (some ⟨g, 0, none⟩) l.length cap := hs 0 (by simp); clear hs; have HB := hid (OldB.refl [g] w); have qg := kg.1
 repeat ((fail_if_success refine stp ?_); with_reducible go_step)
 refine region_F ?_; refine pl ?_; refine listF_abs (fun s1 z' => ?_); replace sl0 := gs 0 z' sl0; clear z'; refine listF_nil ?_
 repeat ((fail_if_success refine stp ?_); with_reducible go_step)
 refine region_F ?_
 iterate 3 refine pl ?_
 refine listF_abs (fun s2 z' => ?_); replace sl0 := gs 0 z' sl0; have sl8 := gu 8 z'; clear z'; refine listF_nil ?_
 repeat ((fail_if_success refine stp ?_); with_reducible go_step)
 refine cond_E sl8 (by decide) ?_ ?_ <;> (clear sl8; intro h8 sl8)
 ·skip
  have Hd := hid (show dups l = false from nodups fun j h => by simp at h8; omega)
  repeat ((fail_if_success refine stp ?_); with_reducible go_step)
  refine region_F ?_; refine pl ?_; refine pl ?_; refine listF_abs (fun s3 z' => ?_); have sl2 := gu 2 z'; clear z' sl0 sl8; refine listF_nil ?_
  repeat ((fail_if_success refine stp ?_); with_reducible go_step)
  refine ret_F _ (res_t Try.results62 ((getD_F (by decide)).trans sl2)) ?_; exact ⟨_, _, rfl, by rw [Hd.out]; simp, Nat.le_refl _, HB.out⟩
 ·skip
  have hl2 : 2 ≤ l.length := by simp at h8; omega
  repeat ((fail_if_success refine stp ?_); with_reducible go_step)
  refine region_F ?_; refine pl ?_; refine listF_abs (fun s4 z' => ?_); replace sl0 := gs 0 z' sl0; have sl3 := gu 3 z'; clear z' sl8; refine listF_nil ?_
  repeat ((fail_if_success refine stp ?_); with_reducible go_step)
  have hc0_0 := hid sl0; refine loop_F (n := 61) (fun kJ sJ wJ => ∃ (m : Nat), kJ = l.length - m ∧ sJ 3 = .int .i64 ((m : Int) + 1) ∧ sJ 0 = s4 0 ∧ OldB [] w wJ ∧ m + 1 ≤ l.length ∧ (Hid (∀ j (h : j + 1 < l.length), j < m → ¬ l[j] = l[j + 1]))) ⟨0, rfl, (by first | exact sl3 | (rw [sl3]; go_num) | (rw [sl3]; rfl)), rfl, OldB.refl _ _, by omega, hid (fun j h1 h2 => by omega)⟩ ?_; clear sl3; rintro kJ s5 w6 ⟨m, rfl, sl3, e0, hb7, hml, hnd⟩; replace sl0 := e0.trans sl0; clear e0; have hoJ := hb7; clear qg; replace kg := kg.oldB hb7 (by first | (simp; done) | (simp; omega)); replace HB := hid (HB.out.more hb7 (by simp; try omega)); clear hb7; have qg := kg.1; have HoJ := hid hoJ; clear hoJ; have HL8 := HoJ; clear HoJ
  repeat ((fail_if_success refine stp ?_); with_reducible go_step)
  refine region_F ?_
  iterate 4 refine pl ?_
  refine listF_abs (fun s9 z' => ?_); replace sl0 := gs 0 z' sl0; replace sl3 := gs 3 z' sl3; have sl13 := gu 13 z'; clear z'; refine listF_nil ?_
  repeat ((fail_if_success refine stp ?_); with_reducible go_step)
  refine cond_E sl13 (by decide) ?_ ?_ <;> (clear sl13; intro h13 sl13)
  ·skip
   have hlt : m + 1 < l.length := by simp at h13; omega
   have hlt2 : m < l.length := by omega
   have hlt' : (m : Int) + 1 < l.length := by omega
   have hlt2' : (m : Int) < l.length := by omega
   have e1 : ((m : Int) + 1).toNat = m + 1 := by omega
   have c0 := ints_cell kg hlt; have c1 := ints_cell kg hlt2; have w1 : IntKind.i64.wrap ((m : Int) + 1 - 1) = (m : Int) := (IntWalk.i64_in _ (by omega)).trans (by omega); have w2 : IntKind.i64.wrap (m : Int) = (m : Int) := IntWalk.i64_in _ (by omega); have w3 : IntKind.i64.wrap ((m : Int) + 1 + 1) = (m : Int) + 1 + 1 := IntWalk.i64_in _ (by omega)
   repeat ((fail_if_success refine stp ?_); with_reducible go_step)
   refine regionQ_F (Below w6.heap.size w6) (by kernel_rfl) (by kernel_rfl) (Below.refl _ _).drew ?_
   iterate 10 refine lq ?_
   refine listQ_nil ?_; intro w10 hb11; clear qg; replace kg := kg.at hb11; replace HL8 := hid (HL8.out.below hb11); replace HB := hid (HB.out.below hb11); clear hb11; have qg := kg.1
   repeat ((fail_if_success refine stp ?_); with_reducible go_step)
   refine wp_abs (fun s12 z' => ?_); replace sl0 := gs 0 z' sl0; replace sl3 := gs 3 z' sl3; have sl25 := gu 25 z'; clear z' sl13
   refine cond_E sl25 (by decide) ?_ ?_ <;> (clear sl25; intro h25 sl25)
   ·skip
    have Hd := hid (show dups l = true from dups_iff.2 ⟨m, hlt, by simpa using (show l[m + 1] = l[m] by simpa using h25).symm⟩); clear c0 c1
    have hcap2 : m + 1 < cap := by omega
    have hcap3 : ¬ cap = m + 1 := by omega
    have hcap4 : ¬ m + 1 = cap := by omega
    have hm1 : (0 : Int) ≤ (m : Int) + 1 := by omega
    have hm2' : (m : Int) + 1 ≤ (l.length : Int) := by omega
    repeat ((fail_if_success refine stp ?_); with_reducible go_step)
    refine region_F ?_
    iterate 4 refine pl ?_
    refine listF_abs (fun s13 z' => ?_); replace sl0 := gs 0 z' sl0; replace sl3 := gs 3 z' sl3; have sl4 := gu 4 z'; clear z' sl25; refine listF_nil ?_
    repeat ((fail_if_success refine stp ?_); with_reducible go_step)
    refine region_F ?_; refine pl ?_; refine listF_abs (fun s14 z' => ?_); replace sl0 := gs 0 z' sl0; replace sl3 := gs 3 z' sl3; replace sl4 := gs 4 z' sl4; have sl5 := gu 5 z'; clear z'; refine listF_nil ?_
    repeat ((fail_if_success refine stp ?_); with_reducible go_step)
    have hc1_0 := hid sl0; have hc1_4 := hid sl4; refine loop_F (n := 61) (fun kJ sJ wJ => ∃ (q p : Nat) (m2 : List Int), kJ = l.length - q ∧ sJ 3 = .int .i64 ((p : Int) + 1) ∧ sJ 5 = .int .i64 ((q : Int) + 1) ∧ sJ 0 = s14 0 ∧ sJ 4 = s14 4 ∧ OldB [g] w10 wJ ∧ Cells wJ g (m2.flatMap int1) ∧ p ≤ m + q ∧ m + 1 + (q + 1) ≤ l.length ∧ m2.length = l.length) ⟨0, m, l, rfl, (by first | exact sl3 | (rw [sl3]; go_num) | (rw [sl3]; rfl)), (by first | exact sl5 | (rw [sl5]; go_num) | (rw [sl5]; rfl)), rfl, rfl, OldB.refl _ _, (by first | (with_reducible exact kg) | (apply Cells.conv; (focus (exact kg)); (first | rfl | (simp; done)))), by omega, by omega, rfl⟩ ?_; clear sl3 sl5; rintro kJ s15 w16 ⟨q, p, m2, rfl, sl3, sl5, e0, e4, hb17, mg', hpq, hqm, hm2⟩; replace sl0 := e0.trans sl0; clear e0; replace sl4 := e4.trans sl4; clear e4; have hoJ := hb17; clear qg; replace kg := mg'; clear HL8; replace HB := hid (HB.out.more hb17 (by simp; try omega))
    clear hb17; have qg := kg.1; clear mg'; have HoJ := hid hoJ; clear hoJ; have HL18 := HoJ; clear HoJ
    repeat ((fail_if_success refine stp ?_); with_reducible go_step)
    refine region_F ?_
    iterate 4 refine pl ?_
    refine listF_abs (fun s19 z' => ?_); replace sl0 := gs 0 z' sl0; replace sl3 := gs 3 z' sl3; replace sl4 := gs 4 z' sl4; replace sl5 := gs 5 z' sl5; have sl32 := gu 32 z'; clear z'; refine listF_nil ?_
    repeat ((fail_if_success refine stp ?_); with_reducible go_step)
    refine cond_E sl32 (by decide) ?_ ?_ <;> (clear sl32; intro h32 sl32)
    ·skip
     have hq : q + 1 < l.length - (m + 1) := by simp at h32; omega
     have hq1 : m + 1 + (q + 1) < m2.length := by omega
     have hq2 : m + 1 + q < m2.length := by omega
     have hq1' : (q : Int) + 1 < ((l.length - (m + 1) : Nat) : Int) := by omega
     have hq0 : (0 : Int) ≤ (q : Int) + 1 := by omega
     have hq3 : q < l.length - (m + 1) := by omega
     have e2 : ((q : Int) + 1).toNat = q + 1 := by omega
     have d0 := ints_cell kg hq1; have d1 := ints_cell kg hq2; have w5 : IntKind.i64.wrap ((q : Int) + 1 - 1) = (q : Int) := (IntWalk.i64_in _ (by omega)).trans (by omega); have w6 : IntKind.i64.wrap (q : Int) = (q : Int) := IntWalk.i64_in _ (by omega); have w7 : IntKind.i64.wrap ((q : Int) + 1 + 1) = (q : Int) + 1 + 1 := IntWalk.i64_in _ (by omega); have w8 : IntKind.i64.wrap ((p : Int) + 1 + 1) = (p : Int) + 1 + 1 := IntWalk.i64_in _ (by omega)
     have hp1 : p + 1 < l.length := by omega
     have hp1' : (p : Int) + 1 < l.length := by omega
     have e3 : ((p : Int) + 1).toNat = p + 1 := by omega
     have d2 := ints_cell kg (show p + 1 < m2.length by omega)
     repeat ((fail_if_success refine stp ?_); with_reducible go_step)
     refine regionQ_F (Below w16.heap.size w16) (by kernel_rfl) (by kernel_rfl) (Below.refl _ _).drew ?_
     iterate 10 refine lq ?_
     refine listQ_nil ?_; intro w20 hb21; clear qg; replace kg := kg.at hb21; replace HL18 := hid (HL18.out.below hb21); replace HB := hid (HB.out.below hb21); clear hb21; have qg := kg.1
     repeat ((fail_if_success refine stp ?_); with_reducible go_step)
     refine wp_abs (fun s22 z' => ?_); replace sl0 := gs 0 z' sl0; replace sl3 := gs 3 z' sl3; replace sl4 := gs 4 z' sl4; replace sl5 := gs 5 z' sl5; have sl44 := gu 44 z'; clear z' sl32
     refine cond_E sl44 (by decide) ?_ ?_ <;> (clear sl44; intro h44 sl44)
     ·skip
      clear d0 d1 d2; have d0 := ints_cell kg hq1; have d2 := ints_cell kg (show p + 1 < m2.length by omega)
      repeat ((fail_if_success refine stp ?_); with_reducible go_step)
      refine region_F ?_
      iterate 7 refine pl ?_
      have zg := kg.2.2; refine pl ?_; refine listF_absw ?_; intro w23 hw'; have kg' := cells_of hw' (Cells.set (kg)); rw [ints_set] at kg'; have hb24 : OldB [g] w20 w23 := oldset hw'; clear hw'; clear zg; clear qg; replace kg := kg'; replace HL18 := hid (HL18.out.more hb24 (by simp; try omega)); replace HB := hid (HB.out.more hb24 (by simp; try omega)); clear hb24; have qg := kg.1; clear kg'; refine listF_abs (fun s25 z' => ?_); replace sl0 := gs 0 z' sl0; replace sl3 := gs 3 z' sl3; replace sl4 := gs 4 z' sl4; replace sl5 := gs 5 z' sl5; clear z' sl44; refine listF_nil ?_
      repeat ((fail_if_success refine stp ?_); with_reducible go_step)
      refine region_F ?_
      iterate 3 refine pl ?_
      refine listF_abs (fun s26 z' => ?_); replace sl0 := gs 0 z' sl0; replace sl3 := gu 3 z'; replace sl4 := gs 4 z' sl4; replace sl5 := gs 5 z' sl5; clear z'; refine listF_nil ?_
      repeat ((fail_if_success refine stp ?_); with_reducible go_step)
      refine region_F ?_
      iterate 3 refine pl ?_
      refine listF_abs (fun s27 z' => ?_); replace sl0 := gs 0 z' sl0; replace sl3 := gs 3 z' sl3; replace sl4 := gs 4 z' sl4; replace sl5 := gu 5 z'; clear z'; refine listF_nil ?_
      repeat ((fail_if_success refine stp ?_); with_reducible go_step)
      refine ⟨_, _, rfl, ?_, q + 1, p + 1, (m2.set (p + 1) m2[m + 1 + (q + 1)]), rfl, (by first | (with_reducible exact sl3) | (rw [sl3]; (with_reducible go_num); done) | (rw [sl3, IntWalk.i64_in] <;> first | ((with_reducible go_num); done) | omega) | (rw [sl3]; go_num; done) | (rw [sl3]; simp; done) | (rw [sl3]; simp; omega)), (by first | (with_reducible exact sl5) | (rw [sl5]; (with_reducible go_num); done) | (rw [sl5, IntWalk.i64_in] <;> first | ((with_reducible go_num); done) | omega) | (rw [sl5]; go_num; done) | (rw [sl5]; simp; done) | (rw [sl5]; simp; omega)), (sl0.trans hc1_0.out.symm), (sl4.trans hc1_4.out.symm), HL18.out, (by first | (with_reducible exact kg) | (apply Cells.conv; (focus (exact kg)); (first | rfl | (simp; done)))), by omega, by omega, (by rw [List.length_set]; exact hm2)⟩
      omega
     ·skip
      repeat ((fail_if_success refine stp ?_); with_reducible go_step)
      refine region_F ?_
      iterate 3 refine pl ?_
      refine listF_abs (fun s28 z' => ?_); replace sl0 := gs 0 z' sl0; replace sl3 := gs 3 z' sl3; replace sl4 := gs 4 z' sl4; replace sl5 := gu 5 z'; clear z' sl44; refine listF_nil ?_
      repeat ((fail_if_success refine stp ?_); with_reducible go_step)
      refine ⟨_, _, rfl, ?_, q + 1, p, m2, rfl, (by first | (with_reducible exact sl3) | (rw [sl3]; (with_reducible go_num); done) | (rw [sl3, IntWalk.i64_in] <;> first | ((with_reducible go_num); done) | omega) | (rw [sl3]; go_num; done) | (rw [sl3]; simp; done) | (rw [sl3]; simp; omega)), (by first | (with_reducible exact sl5) | (rw [sl5]; (with_reducible go_num); done) | (rw [sl5, IntWalk.i64_in] <;> first | ((with_reducible go_num); done) | omega) | (rw [sl5]; go_num; done) | (rw [sl5]; simp; done) | (rw [sl5]; simp; omega)), (sl0.trans hc1_0.out.symm), (sl4.trans hc1_4.out.symm), HL18.out, (by first | (with_reducible exact kg) | (apply Cells.conv; (focus (exact kg)); (first | rfl | (simp; done)))), by omega, by omega, hm2⟩
      omega
    ·skip
     have hp1 : p + 1 < l.length := by simp at h32; omega
     have e3 : ((p : Int) + 1).toNat = p + 1 := by omega
     have hpc : p + 1 < cap := by omega
     have hpc' : (p : Int) + 1 ≤ (cap : Int) := by omega
     have hp3 : (0 : Int) ≤ (p : Int) + 1 := by omega
     have hp2' : (p : Int) + 1 ≤ (l.length : Int) := by omega
     have hcap5 : ¬ cap = p + 1 := by omega
     repeat ((fail_if_success refine stp ?_); with_reducible go_step)
     clear HL18; clear hc1_0 hc1_4; refine region_F ?_
     iterate 3 refine pl ?_
     have hclr := fun ty => Lib.run_clear_slice (P := Try.prog) w16 47 3 ty (.int .i64 0) Try.underlying47 hzv rfl rfl g (p + 1) (l.length - (p + 1)) (cap - (p + 1)) (by omega) (fun j hj => by rw [ints_cell kg (show p + 1 + j < m2.length by omega)]; rfl) (fun j hj => kg.2.2 _)
     refine pl ?_; clear hclr; refine listF_absw (fun w29 hw' => ?_)
     have hb30 : OldB [g] w16 w29 := by rw [hw']; exact oldb_setCells (by simp) _ _ (OldB.refl _ _)
     have kg2 : Cells w29 g [] := ⟨Nat.lt_of_lt_of_le kg.1 hb30.size, (by simp), fun o => by rw [hw', World.frozen?_setCells]; exact kg.2.2 o⟩; clear hw'; clear qg; replace kg := kg2; replace HB := hid (HB.out.more hb30 (by simp; try omega)); clear hb30; have qg := kg.1; refine listF_abs (fun s31 z' => ?_); replace sl0 := gs 0 z' sl0; replace sl3 := gs 3 z' sl3; clear z' sl4 sl5 sl32; refine listF_nil ?_
     repeat ((fail_if_success refine stp ?_); with_reducible go_step)
     refine region_F ?_
     iterate 4 refine pl ?_
     refine listF_abs (fun s32 z' => ?_); have sl2 := gu 2 z'; clear z' sl0 sl3; refine listF_nil ?_
     repeat ((fail_if_success refine stp ?_); with_reducible go_step)
     refine ret_F _ (res_t Try.results62 ((getD_F (by decide)).trans sl2)) ?_; exact ⟨p + 1, _, rfl, by rw [Hd.out]; simp; exact hp1, by omega, HB.out⟩
   ·skip
    have Hne := hid (show ¬ l[m] = l[m + 1] from fun e => by simp at h25; exact h25 e.symm)
    repeat ((fail_if_success refine stp ?_); with_reducible go_step)
    refine region_F ?_
    iterate 3 refine pl ?_
    refine listF_abs (fun s33 z' => ?_); replace sl0 := gs 0 z' sl0; replace sl3 := gu 3 z'; clear z' sl25; refine listF_nil ?_
    repeat ((fail_if_success refine stp ?_); with_reducible go_step)
    refine ⟨_, _, rfl, ?_, m + 1, rfl, (by first | (with_reducible exact sl3) | (rw [sl3]; (with_reducible go_num); done) | (rw [sl3, IntWalk.i64_in] <;> first | ((with_reducible go_num); done) | omega) | (rw [sl3]; go_num; done) | (rw [sl3]; simp; done) | (rw [sl3]; simp; omega)), (sl0.trans hc0_0.out.symm), HL8.out, by omega, hid (fun j h1 h2 => by rcases Nat.lt_or_ge j m with h | h <;> first | exact hnd.out j h1 h | (have e : j = m := (by omega); subst e; exact Hne.out))⟩
    omega
  ·skip
   have Hd := hid (show dups l = false from nodups fun j h => hnd.out j h (by simp at h13; omega))
   repeat ((fail_if_success refine stp ?_); with_reducible go_step)
   clear HL8; clear hc0_0; refine region_F ?_; refine pl ?_; refine pl ?_; refine listF_abs (fun s34 z' => ?_); have sl2 := gu 2 z'; clear z' sl0 sl3 sl13; refine listF_nil ?_
   repeat ((fail_if_success refine stp ?_); with_reducible go_step)
   refine ret_F _ (res_t Try.results62 ((getD_F (by decide)).trans sl2)) ?_; exact ⟨_, _, rfl, by rw [Hd.out]; simp, Nat.le_refl _, HB.out⟩
end

section
open Go.RowKit

set_option maxRecDepth 100000 in
set_option maxHeartbeats 1000000 in
theorem compact_nil (w : World) :
    Calls Try.prog 62 #[.slice none 0 0] w (fun e w' => e = .returned (.slice none 0 0) ∧ Below w.heap.size w w') := by
 refine enter_F Try.func62 rfl Try.ntmps62 (by simp) ?_
 intro s0 hs; have sl0 : s0 0 = .slice none 0 0 := hs 0 (by simp); clear hs; have HB := hid (OldB.refl [] w)
 repeat ((fail_if_success refine stp ?_); with_reducible go_step)
 refine region_F ?_; refine pl ?_; refine listF_abs (fun s1 z' => ?_); replace sl0 := gs 0 z' sl0; clear z'; refine listF_nil ?_
 repeat ((fail_if_success refine stp ?_); with_reducible go_step)
 refine region_F ?_
 iterate 3 refine pl ?_
 refine listF_abs (fun s2 z' => ?_); replace sl0 := gs 0 z' sl0; have sl8 := gu 8 z'; clear z'; refine listF_nil ?_
 repeat ((fail_if_success refine stp ?_); with_reducible go_step)
 refine cond_t ?_
 repeat ((fail_if_success refine stp ?_); with_reducible go_step)
 refine region_F ?_; refine pl ?_; refine pl ?_; refine listF_abs (fun s3 z' => ?_); have sl2 := gu 2 z'; clear z' sl0 sl8; refine listF_nil ?_
 repeat ((fail_if_success refine stp ?_); with_reducible go_step)
 refine ret_F _ (res_t Try.results62 ((getD_F (by decide)).trans sl2)) ?_; exact ⟨rfl, HB.out.toBelow⟩


theorem OldB.lowB {Bs : List Nat} {w0 w w' : World} {N : Nat} (h : OldB Bs w0 w) (hb : Below N w w') (hN : w0.heap.size ≤ N) : OldB Bs w0 w' :=
  ⟨hb.os.trans h.os, hb.tape.trans h.tape, hb.output.trans h.output, Nat.le_trans h.size hb.size, fun k hk hn => (hb.block k (by omega)).trans (h.block k hk hn)⟩
theorem Cells.lowB {w w' : World} {b N : Nat} {l : List Value} (h : Cells w b l) (hb : Below N w w') (hN : b < N) : Cells w' b l := h.kept (hb.block b hN) hb.size
theorem compact_own (v : Value) (l : List Int) (base : Nat) (w : World) (hO : Own int1 1 3 base w v l) (hll : l.length ≤ 1000) (hbs : base ≤ w.heap.size) :
    Calls Try.prog 62 #[v] w fun e w' => ∃ a n c, e = .returned (.slice a n c) ∧ decide (n < l.length) = dups l ∧ n ≤ l.length ∧ Below base w w' := by
  rcases hO.form with ⟨rfl, rfl⟩ | ⟨g, cap, rfl, hg, hgs⟩
  · exact (compact_nil w).mono fun e w' ⟨h1, h2⟩ => ⟨none, 0, 0, h1, rfl, Nat.le_refl _, h2.mono hbs⟩
  · refine (compact_any g cap l w hO.asCells (Own.cap hO) hll).mono ?_
    rintro e w' ⟨n, c, rfl, h1, h2, h3⟩; exact ⟨_, n, c, rfl, h1, h2, h3.lowN hbs (by simp; omega)⟩
def VlO (f : Int) (rack : List Vl) (lo hi : Nat) (Vs : List Nat) (w : World) : Prop := ∀ j (h : j < rack.length), lo ≤ j → j < hi → Cells w (Vs.getD j 0) (vC rack[j].k rack[j].a rack[j].c (vSp f rack[j]) f)
theorem VlO.below {f : Int} {rack : List Vl} {lo hi : Nat} {Vs : List Nat} {w w' : World} (h : VlO f rack lo hi Vs w) (hb : Below w.heap.size w w') : VlO f rack lo hi Vs w' := fun j hj h1 h2 => (h j hj h1 h2).at hb
theorem VlO.oldB {f : Int} {rack : List Vl} {lo hi : Nat} {Vs : List Nat} {w w' : World} {Bs : List Nat} (h : VlO f rack lo hi Vs w) (ho : OldB Bs w w') (hn : ∀ j (h : j < rack.length), lo ≤ j → j < hi → Vs.getD j 0 ∉ Bs) : VlO f rack lo hi Vs w' := fun j hj h1 h2 => (h j hj h1 h2).oldB ho (hn j hj h1 h2)
theorem VlO.grown {f : Int} {rack : List Vl} {lo hi : Nat} {Vs : List Nat} {w w' : World} {v : Value} (h : VlO f rack lo hi Vs w) (hg : w.grownBy w' v.ownBlock) (hn : ∀ j (h : j < rack.length), lo ≤ j → j < hi → v.ownBlock ≠ some (Vs.getD j 0)) : VlO f rack lo hi Vs w' := fun j hj h1 h2 => (h j hj h1 h2).grown hg (hn j hj h1 h2)
theorem VlO.put {f : Int} {rack : List Vl} {lo hi X : Nat} {Vs : List Nat} {w : World} {o : Obj} (h : VlO f rack lo hi Vs w) (hn : ∀ j (h : j < rack.length), lo ≤ j → j < hi → Vs.getD j 0 ≠ X) : VlO f rack lo hi Vs (w.putObj X o) := fun j hj h1 h2 => (h j hj h1 h2).put (hn j hj h1 h2)
theorem VlO.snoc {f : Int} {rack : List Vl} {i : Nat} {Vs : List Nat} {w : World} (h : VlO f rack 0 i Vs w) (hi : i < rack.length) (hl : Vs.length = i) {V : Nat} (hV : Cells w V (vC rack[i].k rack[i].a rack[i].c (vSp f rack[i]) f)) : VlO f rack 0 (i + 1) (Vs ++ [V]) w := by
  intro j hj h1 h2
  by_cases e : j = i
  · subst e
    have : (Vs ++ [V]).getD j 0 = V := by rw [getD_get (by simp; omega)]; simp [← hl]
    rw [this]; exact hV
  · have : (Vs ++ [V]).getD j 0 = Vs.getD j 0 := by rw [getD_get (by simp; omega), getD_get (by omega)]; exact List.getElem_append_left (by omega)
    rw [this]; exact h j hj h1 (by omega)
def DefO (Ds : List Nat) (w : World) : Prop := ∀ D ∈ Ds, w.heap[D]? = some (.deferred (some []))
theorem DefO.below {Ds : List Nat} {w w' : World} (h : DefO Ds w) (hb : Below w.heap.size w w') : DefO Ds w' := fun D hD => (hb.block D (Array.getElem?_eq_some_iff.1 (h D hD)).1).trans (h D hD)
theorem DefO.oldB {Ds Bs : List Nat} {w w' : World} (h : DefO Ds w) (ho : OldB Bs w w') (hn : ∀ D ∈ Ds, D ∉ Bs) : DefO Ds w' := fun D hD => (ho.block D (Array.getElem?_eq_some_iff.1 (h D hD)).1 (hn D hD)).trans (h D hD)
theorem DefO.grown {Ds : List Nat} {w w' : World} {v : Value} (h : DefO Ds w) (hg : w.grownBy w' v.ownBlock) (hn : ∀ D ∈ Ds, v.ownBlock ≠ some D) : DefO Ds w' := fun D hD => (hg.block D (Array.getElem?_eq_some_iff.1 (h D hD)).1 (fun e => hn D hD e.symm)).trans (h D hD)
theorem DefO.put {Ds : List Nat} {X : Nat} {w : World} {o : Obj} (h : DefO Ds w) (hn : ∀ D ∈ Ds, D ≠ X) : DefO Ds (w.putObj X o) := fun D hD => (World.putObj_heap_other (hn D hD)).trans (h D hD)
/-- the rows that the call owns are no marks: a mark holds no cells -/
theorem own_obj {base : Nat} {w : World} {v : Value} {l : List Int} {T : TypeId} {D : Nat} {ob : Obj} (h : Own int1 1 T base w v l) (hD : w.heap[D]? = some ob) (hb : ob.isCells = false) : v.ownBlock ≠ some D := by
  intro e
  rcases h.2 with ⟨rfl, _⟩ | ⟨g, cap, cur, rfl, _, hg, _⟩
  · cases e
  · simp [Value.ownBlock] at e
    subst e; rw [hD] at hg; cases hg; cases hb
theorem PlanO.putC {base X : Nat} {av : List Nat} {w : World} {xs : List Sl} {o ob : Obj} (h : PlanO base av w xs) (hX : w.heap[X]? = some ob) (hb : ob.isCells = false) : PlanO base av (w.putObj X o) xs :=
  h.kept fun i hi g hg => World.putObj_heap_other (fun e => own_obj (h.own i hi) hX hb (e ▸ hg))
theorem Rd.putN {α : Type} {f : α → List Value} {m : Nat} {w : World} {X : Nat} {o : Obj} {a : Option Addr} {l : List α} (h : Rd f m w a l) (hX : w.heap.size ≤ X ∨ ∀ b, a = some b → l ≠ [] → b.block ≠ X) : Rd f m (w.putObj X o) a l := by
  by_cases hl : l = []
  · exact .inl hl
  · rcases h with h | ⟨b, off, ha, hlt, hc⟩
    · exact .inl h
    · refine .inr ⟨b, off, ha, by rw [World.putObj_size]; exact hlt, fun i x hi j v hj => (cell_block (World.putObj_heap_other ?_)).trans (hc i x hi j v hj)⟩
      rcases hX with hX | hX
      · omega
      · exact hX _ ha hl
def RepI (w0 : World) (B8 B9 B15 B80 i n : Nat) (av : List Nat) (f : Int) (rack : List Vl) (Vs : List Nat) (pa : Option Addr) (Ds : List Nat) (o : List (List Int)) (pre : List Int) (W : World) : Prop :=
  ∃ xs, Below w0.heap.size w0 W ∧ Cells W B8 [.slice (some ⟨B80, 0, none⟩) n n] ∧ Cells W B9 [.int .i64 0] ∧ Cells W B15 [.int .i64 i] ∧ Cells W B80 (xs.flatMap Sl.cs) ∧ PlanO (B80 + 1) av W xs ∧ VlO f rack (i + 1) rack.length Vs W ∧ Rd ptr1 1 W pa Vs ∧ DefO Ds W ∧ xs.length = n ∧ xs.map Sl.l = addPlan o i pre ∧ ∀ q (h : q < xs.length), xs[q].l.length ≤ 20 * i + pre.length
theorem RepI.below {w0 : World} {B8 B9 B15 B80 i n : Nat} {av : List Nat} {f : Int} {rack : List Vl} {Vs : List Nat} {pa : Option Addr} {Ds : List Nat} {o : List (List Int)} {pre : List Int} {W W' : World} (h : RepI w0 B8 B9 B15 B80 i n av f rack Vs pa Ds o pre W) (hb : Below W.heap.size W W') : RepI w0 B8 B9 B15 B80 i n av f rack Vs pa Ds o pre W' := by
  obtain ⟨xs, h1, h2, h3, h4, h5, h6, h7, h8, h9, h10, h11, h12⟩ := h; exact ⟨xs, h1.trans (hb.mono h1.size), h2.at hb, h3.at hb, h4.at hb, h5.at hb, h6.below hb, h7.below hb, Rd.at h8 hb, h9.below hb, h10, h11, h12⟩
theorem RepI.oldV {w0 : World} {B8 B9 B15 B80 i n V : Nat} {av : List Nat} {f : Int} {rack : List Vl} {Vs : List Nat} {pa : Option Addr} {Ds : List Nat} {o : List (List Int)} {pre : List Int} {W W' : World} (h : RepI w0 B8 B9 B15 B80 i n av f rack Vs pa Ds o pre W) (ho : OldB [V] W W')
    (hw : w0.heap.size ≤ V) (n8 : B8 ≠ V) (n9 : B9 ≠ V) (n15 : B15 ≠ V) (n80 : V < B80) (nV : ∀ j (h : j < rack.length), i + 1 ≤ j → Vs.getD j 0 ≠ V) (np : ∀ b, pa = some b → b.block ≠ V) (nD : V ∉ Ds) : RepI w0 B8 B9 B15 B80 i n av f rack Vs pa Ds o pre W' := by
  obtain ⟨xs, h1, h2, h3, h4, h5, h6, h7, h8, h9, h10, h11, h12⟩ := h; exact ⟨xs, h1.trans (ho.lowN h1.size (by simpa using hw)), h2.oldB ho (by simpa using n8), h3.oldB ho (by simpa using n9), h4.oldB ho (by simpa using n15), h5.oldB ho (by simp; omega), h6.oldB ho (by simp; omega), h7.oldB ho (fun j hj h1 h2 => by simpa using nV j hj h1), Rd.oldB h8 ho (fun b hb => by simpa using np b hb), h9.oldB ho (fun D hD => by simp; intro e; subst e; exact nD hD), h10, h11, h12⟩
theorem RepI.put {w0 : World} {B8 B9 B15 B80 i n X : Nat} {av : List Nat} {f : Int} {rack : List Vl} {Vs : List Nat} {pa : Option Addr} {Ds : List Nat} {o : List (List Int)} {pre : List Int} {W : World} {ob ob' : Obj} (h : RepI w0 B8 B9 B15 B80 i n av f rack Vs pa Ds o pre W) (hX : W.heap[X]? = some ob) (hb : ob.isCells = false)
    (hw : w0.heap.size ≤ X) (n8 : B8 < X) (n9 : B9 < X) (n15 : B15 < X) (n80 : B80 < X) (nV : ∀ j (h : j < rack.length), Vs.getD j 0 < X) (np : ∀ b, pa = some b → b.block < X) (nD : ∀ D ∈ Ds, D < X) : RepI w0 B8 B9 B15 B80 i n av f rack Vs pa Ds o pre (W.putObj X ob') := by
  obtain ⟨xs, h1, h2, h3, h4, h5, h6, h7, h8, h9, h10, h11, h12⟩ := h; exact ⟨xs, bel_put h1 hw, h2.put (by omega), h3.put (by omega), h4.put (by omega), h5.put (by omega), h6.putC hX hb, h7.put (fun j hj _ _ => by have := nV j hj; omega), Rd.put h8 (fun b hb => by have := np b hb; omega), h9.put (fun D hD => by have := nD D hD; omega), h10, h11, h12⟩
theorem vs_app {Vs : List Nat} {V N n : Nat} {u u' : Value} (h : ∀ j, j < Vs.length → N ≤ Vs.getD j 0 ∧ u.ownBlock ≠ some (Vs.getD j 0)) (hV : u.ownBlock ≠ some V) (hN : N ≤ V) (ho : u'.ownBlock = u.ownBlock ∨ u'.ownBlock = some n) (h1 : ∀ j, j < Vs.length → Vs.getD j 0 < n) (h2 : V < n) :
    ∀ j, j < (Vs ++ [V]).length → N ≤ (Vs ++ [V]).getD j 0 ∧ u'.ownBlock ≠ some ((Vs ++ [V]).getD j 0) := by
  intro j hj
  by_cases e : j < Vs.length
  · have e1 : (Vs ++ [V]).getD j 0 = Vs.getD j 0 := by rw [getD_get hj, getD_get e]; exact List.getElem_append_left e
    rw [e1]; refine ⟨(h j e).1, fun e2 => ?_⟩
    rcases ho with ho | ho
    · rw [ho] at e2; exact (h j e).2 e2
    · rw [ho] at e2; have := h1 j e; cases e2; omega
  · have e1 : (Vs ++ [V]).getD j 0 = V := by
      have : j = Vs.length := by simp at hj; omega
      subst this; rw [getD_get hj]; simp
    rw [e1]; refine ⟨hN, fun e2 => ?_⟩
    rcases ho with ho | ho
    · rw [ho] at e2; exact hV e2
    · rw [ho] at e2; cases e2; omega
theorem planGo_len {k : Kd} {l : List Int} {f u : Int} : ∀ {n a : Nat} {can : Int} {p : List Int}, a ≤ l.length → planGo k l f u n can a = some p → p.length + a ≤ l.length
  | 0, _, _, _, _, h => by cases h
  | n + 1, a, can, p, ha, h => by
    unfold planGo at h
    split at h
    · cases h; simpa using ha
    · split at h
      · cases h
      · rename_i h1 h2
        obtain ⟨b1, b2, b3⟩ := lastIn_bd l f can a l.length; have b4 := b3 (by omega)
        simp only [Option.map_eq_some_iff] at h
        obtain ⟨q, hq, rfl⟩ := h; have := planGo_len (by omega) hq
        simp only [List.length_cons]; omega
theorem planR_len {k : Kd} {l : List Int} {can f u : Int} {p : List Int} (h : planR k l can f u = some p) : p.length ≤ l.length := by have := planGo_len (Nat.zero_le _) h; omega
theorem info_ptr : (Try.prog.info? 98).map (fun i => (i.zero, i.size, i.bytes)) = some (some (.pointer none), 1, 8) := by kernel_rfl
theorem info_sl : (Try.prog.info? 47).map (fun i => (i.zero, i.size, i.bytes)) = some (some (.slice none 0 0), 1, 24) := by kernel_rfl
theorem ptr_one (x : Nat) : ∀ u ∈ ptr1 x, u.oneCell' = true := by intro u hu; simp [ptr1] at hu; subst hu; rfl
theorem wpIn_abs {P : Program} {F : Fence} {m n : Nat} {c : Code} {Q : Exit → Act → World → Prop} {ds : List Deferred} {S : Nat → Value} {w : World} (h : ∀ s', s' = S → c.wpIn F m P Q (mkA n s' ds) w) : c.wpIn F m P Q (mkA n S ds) w := h S rfl
theorem Rd.ptr {w : World} {a : Option Addr} {l : List Nat} (h : Rd ptr1 1 w a l) {k : Nat} (hk : k < l.length) : ∃ b off, a = some ⟨b, off, none⟩ ∧ b < w.heap.size ∧ w.cell? ⟨b, off + k, none⟩ = some (.pointer (some ⟨l.getD k 0, 0, none⟩)) := by
  obtain ⟨b, off, ha, hb, hc⟩ := Rd.ne h hk; exact ⟨b, off, ha, hb, by rw [getD_get hk]; simpa using hc 0 _ rfl⟩
/-- what a round leaves alone -/
structure RepK (k : Kd) (a : Option Addr) (c V B4 B7 B5 B6 : Nat) (an : Option Addr) (cn : Nat) (l : List Int) (f u : Int) (sp : Span) (h : Int) (D : Nat) (r : Loop) (B9 B80 j i : Nat) (xs : List Sl) (rack : List Vl) (Vs : List Nat) (pa : Option Addr) (Ds : List Nat) (NW : Nat) (W : World) : Prop where
  it : ItD k a c V B4 B7 B5 B6 an cn l f u sp h W
  lp : LoopAt W D r
  k9 : Cells W B9 [.int .i64 0]
  ox : OwnX (B80 + 1) j xs W
  vo : VlO f rack (i + 1) rack.length Vs W
  rp : Rd ptr1 1 W pa Vs
  df : DefO Ds W
  sz : NW ≤ W.heap.size
/-- what a round writes to is none of it -/
structure RepN (V B4 B7 B5 B6 : Nat) (an a : Option Addr) (l : List Int) (D B9 i : Nat) (rack : List Vl) (Vs : List Nat) (pa : Option Addr) (Ds : List Nat) (g : Nat) : Prop where
  v : g ≠ V
  b4 : g ≠ B4
  b7 : g ≠ B7
  b5 : g ≠ B5
  b6 : g ≠ B6
  an : ∀ b, an = some b → l ≠ [] → b.block ≠ g
  a : ∀ b, a = some b → b.block ≠ g
  d : g ≠ D
  d1 : g ≠ D + 1
  b9 : g ≠ B9
  vs : ∀ j (h : j < rack.length), i + 1 ≤ j → Vs.getD j 0 ≠ g
  pa : ∀ b, pa = some b → b.block ≠ g
  ds : ∀ E ∈ Ds, E ≠ g
section
variable {k : Kd} {a : Option Addr} {c V B4 B7 B5 B6 : Nat} {an : Option Addr} {cn : Nat} {l : List Int} {f u : Int} {sp : Span} {h : Int} {D : Nat} {r : Loop} {B9 B80 j i : Nat} {xs : List Sl} {rack : List Vl} {Vs : List Nat} {pa : Option Addr} {Ds : List Nat} {NW : Nat} {W W' : World}
theorem RepK.alloc (hk : RepK k a c V B4 B7 B5 B6 an cn l f u sp h D r B9 B80 j i xs rack Vs pa Ds NW W) (ob : Obj) : RepK k a c V B4 B7 B5 B6 an cn l f u sp h D r B9 B80 j i xs rack Vs pa Ds NW (W.alloc ob) := by
  have hb : Below W.heap.size W (W.alloc ob) := (Below.refl _ _).alloc (Nat.le_refl _) _; exact ⟨hk.it.below hb, hk.lp.at hb, hk.k9.at hb, hk.ox.alloc ob, hk.vo.below hb, Rd.at hk.rp hb, hk.df.below hb, Nat.le_trans hk.sz hb.size⟩
theorem RepK.drew (hk : RepK k a c V B4 B7 B5 B6 an cn l f u sp h D r B9 B80 j i xs rack Vs pa Ds NW W) : RepK k a c V B4 B7 B5 B6 an cn l f u sp h D r B9 B80 j i xs rack Vs pa Ds NW W.drew :=
  ⟨⟨hk.it.v, hk.it.b4, hk.it.b7, hk.it.b5, hk.it.b6, hk.it.rn, hk.it.rs⟩, hk.lp, hk.k9, hk.ox, hk.vo, hk.rp, hk.df, hk.sz⟩
theorem RepK.old {Bs : List Nat} (hk : RepK k a c V B4 B7 B5 B6 an cn l f u sp h D r B9 B80 j i xs rack Vs pa Ds NW W) (ho : OldB Bs W W') (hx : OwnX (B80 + 1) j xs W') (hn : ∀ g ∈ Bs, RepN V B4 B7 B5 B6 an a l D B9 i rack Vs pa Ds g) : RepK k a c V B4 B7 B5 B6 an cn l f u sp h D r B9 B80 j i xs rack Vs pa Ds NW W' :=
  ⟨⟨hk.it.v.oldB ho (fun hm => (hn _ hm).v rfl), hk.it.b4.oldB ho (fun hm => (hn _ hm).b4 rfl), hk.it.b7.oldB ho (fun hm => (hn _ hm).b7 rfl), hk.it.b5.oldB ho (fun hm => (hn _ hm).b5 rfl), hk.it.b6.oldB ho (fun hm => (hn _ hm).b6 rfl), Rd.oldN hk.it.rn ho (fun hl b hb hm => (hn _ hm).an b hb hl rfl), Rd.oldB hk.it.rs ho (fun b hb hm => (hn _ hm).a b hb rfl)⟩,
   ⟨(ho.block _ (Array.getElem?_eq_some_iff.1 hk.lp.1).1 (fun hm => (hn _ hm).d1 rfl)).trans hk.lp.1, (ho.block _ (Array.getElem?_eq_some_iff.1 hk.lp.2).1 (fun hm => (hn _ hm).d rfl)).trans hk.lp.2⟩,
   hk.k9.oldB ho (fun hm => (hn _ hm).b9 rfl), hx, hk.vo.oldB ho (fun q hq h1 _ hm => (hn _ hm).vs q hq h1 rfl), Rd.oldB hk.rp ho (fun b hb hm => (hn _ hm).pa b hb rfl), hk.df.oldB ho (fun E hE hm => (hn _ hm).ds E hE rfl), Nat.le_trans hk.sz ho.size⟩
end
theorem oldB_grown {w w' : World} {row : Option Nat} {Bs : List Nat} (hg : w.grownBy w' row) (hr : ∀ g, row = some g → g ∈ Bs) : OldB Bs w w' :=
  ⟨hg.os, hg.tape, hg.output, hg.size, fun k hk hn => hg.block k hk (fun e => hn (hr k e.symm))⟩
theorem ItD.put {k : Kd} {a : Option Addr} {c V B4 B7 B5 B6 X : Nat} {an : Option Addr} {cn : Nat} {l : List Int} {f u : Int} {sp : Span} {h : Int} {W : World} {ob' : Obj} (hd : ItD k a c V B4 B7 B5 B6 an cn l f u sp h W) (n1 : V < X) (n4 : B4 < X) (n7 : B7 < X) (n5 : B5 < X) (n6 : B6 < X) (na : ∀ b, an = some b → l ≠ [] → b.block < X) (ns : ∀ b, a = some b → b.block < X) : ItD k a c V B4 B7 B5 B6 an cn l f u sp h (W.putObj X ob') :=
  ⟨hd.v.put (by omega), hd.b4.put (by omega), hd.b7.put (by omega), hd.b5.put (by omega), hd.b6.put (by omega), Rd.putN hd.rn (.inr fun b hb hl => by have := na b hb hl; omega), Rd.put hd.rs (fun b hb => by have := ns b hb; omega)⟩
end


end Go.Proofs.Ytndcmmghgljinaa
