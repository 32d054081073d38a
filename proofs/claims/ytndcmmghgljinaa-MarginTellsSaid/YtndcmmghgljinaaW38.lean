/- Replace$1: what the deferred call does. -/
import Derived.Test.YtndcmmghgljinaaW37
import Derived.Test.YtndcmmghgljinaaW36
set_option linter.all false
namespace Go.Proofs.Ytndcmmghgljinaa
open Go.RowKit


def errPanic (r : Bool) : List PanicEntry := [{ v := .iface 27 (.int .i64 9), recovered := r }]
set_option maxRecDepth 100000 in
theorem rep1_pan (B8 B9 : Nat) (x y : Value) (w : World) (k8 : Cells w B8 [x]) (k9 : Cells w B9 [y]) (h89 : ¬ B8 = B9) :
    CallsDIn Fence.wide 0 Try.prog 60 #[.pointer (some ⟨B8, 0, none⟩), .pointer (some ⟨B9, 0, none⟩)] (.panicking (errPanic false)) w fun e u' w' => e = .returned (.tuple #[]) ∧ u' = .panicking (errPanic true) ∧ Cells w' B8 [.slice none 0 0] ∧ Cells w' B9 [.int .i64 9] ∧ OldB [B8, B9] w w' := by
  refine callsDIn_of_wpSIn Try.func60 rfl trivial fun c₀ cs hu => ?_
  apply wpSIn_seq
  apply wpSIn_region
  have hu' : c₀.mode = .panicking [{ v := .iface 27 (.int .i64 9), recovered := false, goexit := false }] := hu
  simp [wpOpsSIn, go_sem, recoverD, hu', Try.ntmps60, Exit.thenS, Fence.wide]
  apply wpSIn_seq
  apply wpSIn_region
  simp [wpOpsSIn, go_sem, recoverD, hu', Try.ntmps60, Exit.thenS, Fence.wide]
  refine wpSIn_cond (t := true) (by simp [Act.eval, Array.replicate]) ?_
  simp only [if_true]
  refine wpSIn_of_wpIn rfl (wpIn_wide.2 (wp_toF (n := 8) rfl (by simp) fun s hs => ?_))
  have sl0 : s 0 = .pointer (some ⟨B8, 0, none⟩) := by rw [hs]; rfl
  have sl1 : s 1 = .pointer (some ⟨B9, 0, none⟩) := by rw [hs]; rfl
  have sl2 : s 2 = .iface 27 (.int .i64 9) := by rw [hs]; rfl
  clear hs; have q8 := k8.1; have q9 := k9.1; have c8 := k8.cell 0 rfl
  have h98 : ¬ B9 = B8 := fun e => h89 e.symm
  refine regionR_F [B8, B9] [[x], [y]] [4, 5] [.q [], .q [], .st 4] [?v1_0, ?v1_1, fun _ => undef] [fun _ => [], fun _ => [], ?c1_2] (by kernel_rfl) (by kernel_rfl) (by kernel_rfl) (by kernel_rfl) (by kernel_rfl) (by first | exact List.nodup_nil | exact List.nodup_singleton _ | (simp; done) | (simp; omega)) (bc_cons (by repeat (first | (with_reducible exact k8) | (with_reducible refine Cells.drew ?_) | (with_reducible refine Cells.up ?_ _) | (with_reducible refine Cells.setFar ?_ (by omega)))) (bc_cons (by repeat (first | (with_reducible exact k9) | (with_reducible refine Cells.drew ?_) | (with_reducible refine Cells.up ?_ _) | (with_reducible refine Cells.setFar ?_ (by omega)))) bc_nil)) ?walk1 ?dep1
  case walk1 =>
    refine rq ?_
    refine rq ?_
    refine walkR_st (by rfl) (fun X hX wq hwq hkq => ?_) ?_
    · rw [show X 4 = B8 from hX.at0 0 _ rfl] at hkq ⊢
      replace hkq : Cells wq B8 [x] := hkq
      have hks := hkq.1
      have hkz := hkq.2.2
      have hk0 := hkq.cell 0 rfl
      go_simp
      (first | ((with_reducible refine writeB_mk (Cells.set hkq) ?_ ?_); (focus (repeat (first | (with_reducible exact Only.refl _ _) | (with_reducible refine Only.set ?_)))); rfl) | ((with_reducible refine writeB_mk (Cells.set (Cells.set hkq)) ?_ ?_); (focus (repeat (first | (with_reducible exact Only.refl _ _) | (with_reducible refine Only.set ?_)))); rfl) | ((with_reducible refine writeB_mk (Cells.set (Cells.set (Cells.set hkq))) ?_ ?_); (focus (repeat (first | (with_reducible exact Only.refl _ _) | (with_reducible refine Only.set ?_)))); rfl) | ((with_reducible refine writeB_mk (Cells.set (Cells.set (Cells.set (Cells.set hkq)))) ?_ ?_); (focus (repeat (first | (with_reducible exact Only.refl _ _) | (with_reducible refine Only.set ?_)))); rfl) | ((with_reducible refine writeB_mk (Cells.set (Cells.set (Cells.set (Cells.set (Cells.set hkq))))) ?_ ?_); (focus (repeat (first | (with_reducible exact Only.refl _ _) | (with_reducible refine Only.set ?_)))); rfl) | ((with_reducible refine writeB_mk (Cells.set (Cells.set (Cells.set (Cells.set (Cells.set (Cells.set hkq)))))) ?_ ?_); (focus (repeat (first | (with_reducible exact Only.refl _ _) | (with_reducible refine Only.set ?_)))); rfl) | ((with_reducible refine writeB_mk (Cells.set (Cells.set (Cells.set (Cells.set (Cells.set (Cells.set (Cells.set hkq))))))) ?_ ?_); (focus (repeat (first | (with_reducible exact Only.refl _ _) | (with_reducible refine Only.set ?_)))); rfl) | ((with_reducible refine writeB_mk (Cells.set (Cells.set (Cells.set (Cells.set (Cells.set (Cells.set (Cells.set (Cells.set hkq)))))))) ?_ ?_); (focus (repeat (first | (with_reducible exact Only.refl _ _) | (with_reducible refine Only.set ?_)))); rfl))
    refine walkR_nil (fun X hX wz hwz hcz => ?_)
    have kz0 := hcz 4 (by simp)
    rw [show X 4 = B8 from hX.at0 0 _ rfl] at kz0
    simp only [updC_some, updC_none, Nat.reduceEqDiff, ↓reduceIte] at kz0
    have kz1 := hcz 5 (by simp)
    rw [show X 5 = B9 from hX.at0 1 _ rfl] at kz1
    replace kz1 : Cells wz B9 [y] := kz1
    clear hX hcz
    (try clear X)
    have y9 := kz1.cell 0 rfl
    have z9 := kz1.2.2
    have r9 := kz1.1
    have ho := hwz.unDrew
    have k8z := kz0
    clear hwz kz0
    refine pl ?_
    refine listF_nil ?_
    refine ⟨rfl, _, rfl, .tuple #[], res_none Try.results60, rfl, rfl, ?_, ?_, ?_⟩
    · exact k8z.setFar h89
    · exact Cells.set (i := 0) kz1
    · exact ho.set (by simp)
  case dep1 =>
    refine dR ?_
    refine dR ?_
    refine dR ?_
    exact depR_nil
theorem rep1_ret (B8 B9 : Nat) (w : World) : CallsDIn Fence.wide 0 Try.prog 60 #[.pointer (some ⟨B8, 0, none⟩), .pointer (some ⟨B9, 0, none⟩)] .returning w fun e u' w' => e = .returned (.tuple #[]) ∧ u' = .returning ∧ w' = w := by
  refine callsDIn_of_wpSIn Try.func60 rfl trivial fun c₀ cs hu => ?_
  apply wpSIn_seq
  apply wpSIn_region
  simp [wpOpsSIn, go_sem, recoverD, hu, Try.ntmps60, Exit.thenS, Fence.wide]
  apply wpSIn_seq
  apply wpSIn_region
  simp [wpOpsSIn, go_sem, recoverD, hu, Try.ntmps60, Exit.thenS, Fence.wide]
  refine wpSIn_cond (t := false) (by simp [Act.eval, Array.replicate]) ?_
  simp only [Bool.false_eq_true, if_false]
  refine wpSIn_of_wpIn rfl (wpIn_wide.2 (wp_skip ?_))
  cases c₀
  simp_all [bodyPostS, results, Try.results60]
/-- the deferred call -/
def repD (B8 B9 : Nat) : Deferred := { target := .fn (.func 60) #[.pointer (some ⟨B8, 0, none⟩), .pointer (some ⟨B9, 0, none⟩)], args := #[] }
theorem res_rep {tmps : Array Value} {w : World} {b1 b2 : Nat} {v : Value} {e : Int} (e1 : tmps.getD 8 undef = .pointer (some ⟨b1, 0, none⟩)) (e2 : tmps.getD 9 undef = .pointer (some ⟨b2, 0, none⟩)) (k1 : Cells w b1 [v]) (k2 : Cells w b2 [.int .i64 e]) (hv : v.oneCell' = true) :
    (results Try.f35 tmps).run Try.prog w = .ok (.tuple #[v, .int .i64 e]) w := by
  have c1 := k1.cell 0 rfl; have c2 := k2.cell 0 rfl
  simp only [Array.getD_eq_getD_getElem?] at *
  simp only [results, Try.results35]
  simp [Sem.run_bind, Result.andThen, e1, e2, asAddr, go_sem, c1, c2]
theorem rep_leave_ret {n : Nat} {s : Nat → Value} {w : World} {B8 B9 : Nat} {Ds : List Nat} {v : Value} {e : Int} {R : Ending → World → Prop} (hn : 9 < n) (sl8 : s 8 = .pointer (some ⟨B8, 0, none⟩)) (sl9 : s 9 = .pointer (some ⟨B9, 0, none⟩)) (hD : ∀ D ∈ Ds, w.heap[D]? = some (.deferred (some []))) (hd : Ds.Nodup)
    (k8 : Cells w B8 [v]) (k9 : Cells w B9 [.int .i64 e]) (n8 : B8 ∉ Ds) (n9 : B9 ∉ Ds) (hv : v.oneCell' = true) (hR : R (.returned (.tuple #[v, .int .i64 e])) (shut Ds w)) : bodyPostM Fence.wide 0 Try.prog Try.f35 R .ret (mkA n s (marks Ds [repD B8 B9])) w := by
  show LeavesInM Fence.wide 0 Try.prog Try.f35 (tmA n s) R (marks Ds [repD B8 B9]) .returning w
  refine leave_marks (by simp) Ds w hD hd ⟨by simp, .inr ⟨fun h => (by simp [Fence.wide] at h), .func 60, #[.pointer (some ⟨B8, 0, none⟩), .pointer (some ⟨B9, 0, none⟩)], 60, #[.pointer (some ⟨B8, 0, none⟩), .pointer (some ⟨B9, 0, none⟩)], rfl, by simp [repD, invoke, go_sem], fun _ _ => trivial, (rep1_ret B8 B9 _).mono ?_⟩⟩; rintro e' u' w' ⟨rfl, rfl, rfl⟩; exact ⟨_, res_rep ((getD_F (by omega)).trans sl8) ((getD_F (by omega)).trans sl9) (k8.shut n8) (k9.shut n9) hv, hR⟩
theorem rep_leave_pan {n : Nat} {s : Nat → Value} {w : World} {B8 B9 : Nat} {Ds : List Nat} {v y : Value} {R : Ending → World → Prop} (hn : 9 < n) (sl8 : s 8 = .pointer (some ⟨B8, 0, none⟩)) (sl9 : s 9 = .pointer (some ⟨B9, 0, none⟩)) (hD : ∀ D ∈ Ds, w.heap[D]? = some (.deferred (some []))) (hd : Ds.Nodup)
    (k8 : Cells w B8 [v]) (k9 : Cells w B9 [y]) (h89 : ¬ B8 = B9) (n8 : B8 ∉ Ds) (n9 : B9 ∉ Ds) (hR : ∀ w', OldB [B8, B9] (shut Ds w) w' → R (.returned (.tuple #[.slice none 0 0, .int .i64 9])) w') : bodyPostM Fence.wide 0 Try.prog Try.f35 R (.panic (errPanic false)) (mkA n s (marks Ds [repD B8 B9])) w := by
  show LeavesInM Fence.wide 0 Try.prog Try.f35 (tmA n s) R (marks Ds [repD B8 B9]) (.panicking (errPanic false)) w
  refine leave_marks (by simp) Ds w hD hd ⟨by simp, .inr ⟨fun h => (by simp [Fence.wide] at h), .func 60, #[.pointer (some ⟨B8, 0, none⟩), .pointer (some ⟨B9, 0, none⟩)], 60, #[.pointer (some ⟨B8, 0, none⟩), .pointer (some ⟨B9, 0, none⟩)], rfl, by simp [repD, invoke, go_sem], fun _ _ => trivial, (rep1_pan B8 B9 v y _ (k8.shut n8) (k9.shut n9) h89).mono ?_⟩⟩; rintro e' u' w' ⟨rfl, rfl, k8', k9', ho⟩; exact ⟨_, res_rep ((getD_F (by omega)).trans sl8) ((getD_F (by omega)).trans sl9) k8' k9' rfl, hR _ ho⟩

end Go.Proofs.Ytndcmmghgljinaa
