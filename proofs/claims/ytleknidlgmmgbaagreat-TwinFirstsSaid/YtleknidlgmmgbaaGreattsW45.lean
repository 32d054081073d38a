/- Units as keys of a map. -/
import Derived.Test.YtleknidlgmmgbaaGreattsW39
import Derived.Test.YtleknidlgmmgbaaGreattsW29
import Derived.DeepKeys4
import Derived.Test.YtleknidlgmmgbaaGreattsG13
import Derived.Test.YtleknidlgmmgbaaGreattsCZ
set_option linter.all false
set_option maxRecDepth 100000
set_option maxHeartbeats 1000000
namespace Go.Proofs.YtleknidlgmmgbaaGreat

section
open Go.RowKit


theorem own_cases {β : Type} {f : β → List Value} {m : Nat} (hf : ∀ x, (f x).length = m) {T : TypeId} {base : Nat} {w : World} {v : Value} {l : List β} (h : Own f m T base w v l) :
    (v = .slice none 0 0 ∧ l = []) ∨ ∃ g c, v = .slice (some ⟨g, 0, none⟩) l.length c ∧ base ≤ g ∧ Cells w g (l.flatMap f) ∧ l.length ≤ c := by
  rcases Own.formN h (n := l.length) rfl with ⟨rfl, hl0, hk0⟩ | ⟨g, cap, rfl, hg1, hg2, _⟩
  · exact .inl ⟨rfl, hl0⟩
  · right
    have hlt := (World.ownsRow.lt h g rfl).2; refine ⟨g, cap, rfl, hg1, ⟨hlt, fun i v hv => ?_, fun o => ?_⟩, Own.cap h⟩
    · have hi := flat_inv hf _ _ _ hv
      obtain ⟨d1, d2, d3⟩ := idx_div hi; have hx : l[i / m]? = some l[i / m] := List.getElem?_eq_getElem d1; have hj : (f l[i / m])[i % m]? = some ((f l[i / m])[i % m]'(by rw [hf]; exact d2)) := List.getElem?_eq_getElem _; have k1 := flat_get f m hf l _ _ hx _ _ hj; rw [d3, hv] at k1; have k2 := Own.cells0 hf h _ _ hx _ _ hj; rw [d3, ← Option.some.inj k1] at k2; exact k2
    · exact Own.frozen h o

theorem compact_nil_ent (w : World) :
    Calls Tryz.prog 93 #[.slice none 0 0] w (fun e w' => e = .returned (.slice none 0 0) ∧ w = w') := by
 refine enter_F Tryz.func93 rfl Tryz.ntmps93 (by simp) ?_
 intro s0 hs; have sl0 : s0 0 = .slice none 0 0 := hs 0 (by simp); clear hs; have HB := hid (OldB.refl [] w)
 refine nr ?_; intros; refine pl ?_; refine lx [] ?_; clear sl0; intro _ sl0; refine lr ?_; intros
 refine P3 ?_
 refine lx [8] ?_; clear sl0; intro _ sl0 sl8; refine ln ?_; intros
 refine cond_t ?_
 refine nr ?_; intros; refine P2 ?_; clear sl0 sl8; refine lx [2] ?_; intro _ sl2; refine ln ?_; intros
 refine ret_F _ (res_t Tryz.results93 ((getD_F (by decide)).trans sl2)) ?_; exact ⟨rfl, rfl⟩

theorem XW45b {A : Prop} (e : A := by exact ⟨none, 0, by rw [← Hr.out]; rfl, .inl (by rw [← Hr.out]; rfl), (fun b hb => by cases hb), HB.out.toBelow⟩) : A := e
theorem sorted_ent (a : Option Addr) (c : Nat) (l R : List Ent) (w : World) (hR : RdEn w a l) (hl : l.length ≤ 1000) (hB : ∀ x ∈ l, EntB x) (hm : ∀ m : List Ent, m.Perm l → m.Pairwise (fun x y => soonE y x = false) → compL m = R) :
    Calls Tryz.prog 58 #[.slice a l.length c, .func (.func 59) #[] #[]] w (fun e w' => ∃ a' c', e = .returned (.slice a' R.length c') ∧ RdEn w' a' R ∧ (∀ b, a' = some b → w.heap.size ≤ b.block) ∧ Below w.heap.size w w') := by
 have HR := hid hR; have HBd := hid hB; have Hm := hid hm; clear hR hB hm
 refine enter_F Tryz.func58 rfl Tryz.ntmps58 (by simp) ?_
 intro s0 hs; have sl0 : s0 0 = .slice a l.length c := hs 0 (by simp); have sl1 : s0 1 = .func (.func 59) #[] #[] := hs 1 (by simp); clear hs; have HB := hid (OldB.refl [] w)
 refine nr ?_; intros; refine pl ?_; refine lx [] ?_; clear sl0 sl1; intro s1 sl0 sl1; refine lr ?_; intros; refine pl ?_; refine cal (cloneEnt_any a c l _ hl HR.out) ?_; rintro e w2 ⟨v6, rfl, hO6, hb3⟩; refine ⟨_, rfl, ?_⟩; replace HB := bE HB hb3; clear hb3; refine pl ?_; clear sl0; refine lx [0] ?_; clear sl1; intro s4 sl1 sl0; refine ln ?_; intros
 rcases own_cases (f := Ent.cs) (m := 4) (fun _ => rfl) hO6 with ⟨rfl, rfl⟩ | ⟨g, c1, rfl, hgb, kg', hcap⟩
 ·skip
  clear hO6; have Hr := hid (Hm.out [] (List.Perm.refl _) List.Pairwise.nil); refine region_F ?_; refine P2 ?_; refine cal (sort_nilE _) ?_; rintro e w' ⟨rfl, rfl⟩; refine ⟨_, rfl, ?_⟩; clear sl1; refine lx [] ?_; clear sl0; intro s6 sl0; refine lr ?_; intros; refine pl ?_; refine cal (compact_nil_ent _) ?_; rintro e w' ⟨rfl, rfl⟩; refine ⟨_, rfl, ?_⟩; refine pl ?_; clear sl0; refine lx [4] ?_; intro s8 sl4; refine ln ?_; intros
  refine ret_F _ (res_t Tryz.results58 ((getD_F (by decide)).trans sl4)) ?_; exact XW45b
 ·skip
  clear hO6; have kg := kg'; clear kg'; have qg := kg.1; skip; refine region_F ?_; refine P2 ?_; refine cal (sortE_any g c1 l _ HBd.out kg hl) ?_; rintro e w9 ⟨rfl, ms, hp, hs, kg2, hb10⟩; refine ⟨_, rfl, ?_⟩; clear qg; replace kg := kg2; replace HB := mO HB hb10; clear hb10; have qg := kg.1; clear sl1; refine lx [] ?_; clear sl0; intro s11 sl0; refine lr ?_; intros; refine pl ?_; have hpl := hp.length_eq; have Hpl := hid hpl; clear hpl; refine lx [10] ?_; clear sl0; intro s12 sl0 sl10; rw [← Hpl.out] at sl10; have HRm := hid (Hm.out ms hp hs); refine cal (compact_ent g c1 ms _ kg (by rw [hp.length_eq]; exact hcap) (by rw [hp.length_eq]; exact hl)) ?_; rintro e w13 ⟨c2, rfl, kg2, hb14⟩; refine ⟨_, rfl, ?_⟩; clear qg; replace kg := kg2; replace HB := mO HB hb14; clear hb14; have qg := kg.1; refine pl ?_; clear sl0 sl10; refine lx [4] ?_; intro s15 sl4; refine ln ?_; intros
  refine ret_F _ (res_t Tryz.results58 ((getD_F (by decide)).trans sl4)) ?_; exact ⟨some ⟨g, 0, none⟩, c2, by rw [HRm.out], by rw [← HRm.out]; exact Cells.rd (f := Ent.cs) (m := 4) (fun _ => rfl) kg, (fun b hb => by cases hb; exact hgb), HB.out.toBelow⟩

theorem compact_nil_unt (w : World) :
    Calls Tryz.prog 98 #[.slice none 0 0] w (fun e w' => e = .returned (.slice none 0 0) ∧ w = w') := by
 refine enter_F Tryz.func98 rfl Tryz.ntmps98 (by simp) ?_
 intro s0 hs; have sl0 : s0 0 = .slice none 0 0 := hs 0 (by simp); clear hs; have HB := hid (OldB.refl [] w)
 refine nr ?_; intros; refine pl ?_; refine lx [] ?_; clear sl0; intro _ sl0; refine lr ?_; intros
 refine P3 ?_
 refine lx [8] ?_; clear sl0; intro _ sl0 sl8; refine ln ?_; intros
 refine cond_t ?_
 refine nr ?_; intros; refine P2 ?_; clear sl0 sl8; refine lx [2] ?_; intro _ sl2; refine ln ?_; intros
 refine ret_F _ (res_t Tryz.results98 ((getD_F (by decide)).trans sl2)) ?_; exact ⟨rfl, rfl⟩

theorem sorted_unt (a : Option Addr) (c : Nat) (l R : List Unt) (w : World) (hR : RdUn w a l) (hl : l.length ≤ 1000) (hB : ∀ x ∈ l, UntB x) (hm : ∀ m : List Unt, m.Perm l → m.Pairwise (fun x y => uLess y x = false) → compL m = R) :
    Calls Tryz.prog 63 #[.slice a l.length c, .func (.func 64) #[] #[]] w (fun e w' => ∃ a' c', e = .returned (.slice a' R.length c') ∧ RdUn w' a' R ∧ (∀ b, a' = some b → w.heap.size ≤ b.block) ∧ Below w.heap.size w w') := by
 have HR := hid hR; have HBd := hid hB; have Hm := hid hm; clear hR hB hm
 refine enter_F Tryz.func63 rfl Tryz.ntmps63 (by simp) ?_
 intro s0 hs; have sl0 : s0 0 = .slice a l.length c := hs 0 (by simp); have sl1 : s0 1 = .func (.func 64) #[] #[] := hs 1 (by simp); clear hs; have HB := hid (OldB.refl [] w)
 refine nr ?_; intros; refine pl ?_; refine lx [] ?_; clear sl0 sl1; intro s1 sl0 sl1; refine lr ?_; intros; refine pl ?_; refine cal (cloneUnt_any a c l _ hl HR.out) ?_; rintro e w2 ⟨v6, rfl, hO6, hb3⟩; refine ⟨_, rfl, ?_⟩; replace HB := bE HB hb3; clear hb3; refine pl ?_; clear sl0; refine lx [0] ?_; clear sl1; intro s4 sl1 sl0; refine ln ?_; intros
 rcases own_cases (f := Unt.cs) (m := 2) (fun _ => rfl) hO6 with ⟨rfl, rfl⟩ | ⟨g, c1, rfl, hgb, kg', hcap⟩
 ·skip
  clear hO6; have Hr := hid (Hm.out [] (List.Perm.refl _) List.Pairwise.nil); refine region_F ?_; refine P2 ?_; refine cal (sort_nilU _) ?_; rintro e w' ⟨rfl, rfl⟩; refine ⟨_, rfl, ?_⟩; clear sl1; refine lx [] ?_; clear sl0; intro s6 sl0; refine lr ?_; intros; refine pl ?_; refine cal (compact_nil_unt _) ?_; rintro e w' ⟨rfl, rfl⟩; refine ⟨_, rfl, ?_⟩; refine pl ?_; clear sl0; refine lx [4] ?_; intro s8 sl4; refine ln ?_; intros
  refine ret_F _ (res_t Tryz.results63 ((getD_F (by decide)).trans sl4)) ?_; exact XW45b
 ·skip
  clear hO6; have kg := kg'; clear kg'; have qg := kg.1; skip; refine region_F ?_; refine P2 ?_; refine cal (sortU_any g c1 l _ HBd.out kg hl) ?_; rintro e w9 ⟨rfl, ms, hp, hs, kg2, hb10⟩; refine ⟨_, rfl, ?_⟩; clear qg; replace kg := kg2; replace HB := mO HB hb10; clear hb10; have qg := kg.1; clear sl1; refine lx [] ?_; clear sl0; intro s11 sl0; refine lr ?_; intros; refine pl ?_; have hpl := hp.length_eq; have Hpl := hid hpl; clear hpl; refine lx [10] ?_; clear sl0; intro s12 sl0 sl10; rw [← Hpl.out] at sl10; have HRm := hid (Hm.out ms hp hs); refine cal (compact_unt g c1 ms _ kg (by rw [hp.length_eq]; exact hcap) (by rw [hp.length_eq]; exact hl)) ?_; rintro e w13 ⟨c2, rfl, kg2, hb14⟩; refine ⟨_, rfl, ?_⟩; clear qg; replace kg := kg2; replace HB := mO HB hb14; clear hb14; have qg := kg.1; refine pl ?_; clear sl0 sl10; refine lx [4] ?_; intro s15 sl4; refine ln ?_; intros
  refine ret_F _ (res_t Tryz.results63 ((getD_F (by decide)).trans sl4)) ?_; exact ⟨some ⟨g, 0, none⟩, c2, by rw [HRm.out], by rw [← HRm.out]; exact Cells.rd (f := Unt.cs) (m := 2) (fun _ => rfl) kg, (fun b hb => by cases hb; exact hgb), HB.out.toBelow⟩
end

section
open Go.RowKit


def errPanic (e : Int) (r : Bool) : List PanicEntry := [{ v := .iface 30 (.int .i64 e), recovered := r }]
theorem rep1_pan (er : Int) (B8 B9 : Nat) (x y : Value) (w : World) (k8 : Cells w B8 [x]) (k9 : Cells w B9 [y]) (h89 : ¬ B8 = B9) :
    CallsDIn Fence.wide 0 Tryz.prog 53 #[.pointer (some ⟨B8, 0, none⟩), .pointer (some ⟨B9, 0, none⟩)] (.panicking (errPanic er false)) w fun e u' w' => e = .returned (.tuple #[]) ∧ u' = .panicking (errPanic er true) ∧ Cells w' B8 [.slice none 0 0] ∧ Cells w' B9 [.int .i64 er] ∧ OldB [B8, B9] w w' := by
  refine callsDIn_of_wpSIn Tryz.func53 rfl trivial fun c₀ cs hu => ?_
  apply wpSIn_seq
  apply wpSIn_region
  have hu' : c₀.mode = .panicking [{ v := .iface 30 (.int .i64 er), recovered := false, goexit := false }] := hu
  simp [wpOpsSIn, go_sem, recoverD, hu', Tryz.ntmps53, Exit.thenS, Fence.wide]
  apply wpSIn_seq
  apply wpSIn_region
  simp [wpOpsSIn, go_sem, recoverD, hu', Tryz.ntmps53, Exit.thenS, Fence.wide]
  refine wpSIn_cond (t := true) (by simp [Act.eval, Array.replicate]) ?_
  simp only [if_true]
  refine wpSIn_of_wpIn rfl (wpIn_wide.2 (wp_toF (n := 8) rfl (by simp) fun s hs => ?_))
  have sl0 : s 0 = .pointer (some ⟨B8, 0, none⟩) := by rw [hs]; rfl
  have sl1 : s 1 = .pointer (some ⟨B9, 0, none⟩) := by rw [hs]; rfl
  have sl2 : s 2 = .iface 30 (.int .i64 er) := by rw [hs]; rfl
  clear hs; have q8 := k8.1; have q9 := k9.1; have c8 := k8.cell 0 rfl
  have h98 : ¬ B9 = B8 := fun e => h89 e.symm
  refine regionR_F [B8, B9] [[x], [y]] [4, 5] [.q [], .q [], .st 4] [?v1_0, ?v1_1, fun _ => undef] [fun _ => [], fun _ => [], ?c1_2] (by kernel_rfl) (by kernel_rfl) (by kernel_rfl) (by kernel_rfl) (by kernel_rfl) (by first | exact List.nodup_nil | exact List.nodup_singleton _ | (simp; done) | (simp; omega)) (bc_cons (by repeat (first | (with_reducible exact k8) | (with_reducible refine Cells.drew ?_) | (with_reducible refine Cells.up ?_ _) | (with_reducible refine Cells.setFar ?_ (by omega)))) (bc_cons (by repeat (first | (with_reducible exact k9) | (with_reducible refine Cells.drew ?_) | (with_reducible refine Cells.up ?_ _) | (with_reducible refine Cells.setFar ?_ (by omega)))) bc_nil)) ?walk1 ?dep1
  case walk1 =>
    refine rq ?_
    refine rq ?_
    refine walkR_st (by rfl) (fun X hX wq hwq hkq => ?_) ?_
    · rw [show X 4 = B8 from hX.at0 0 _ rfl] at hkq ⊢
      replace hkq : Cells wq B8 [x] := hkq
      have hks := hkq.1
      have hkz := hkq.2.2
      have hk0 := hkq.cell 0 rfl
      go_simp
      (first | ((with_reducible refine writeB_mk (Cells.set hkq) ?_ ?_); (focus (repeat (first | (with_reducible exact Only.refl _ _) | (with_reducible refine Only.set ?_)))); rfl) | ((with_reducible refine writeB_mk (Cells.set (Cells.set hkq)) ?_ ?_); (focus (repeat (first | (with_reducible exact Only.refl _ _) | (with_reducible refine Only.set ?_)))); rfl) | ((with_reducible refine writeB_mk (Cells.set (Cells.set (Cells.set hkq))) ?_ ?_); (focus (repeat (first | (with_reducible exact Only.refl _ _) | (with_reducible refine Only.set ?_)))); rfl) | ((with_reducible refine writeB_mk (Cells.set (Cells.set (Cells.set (Cells.set hkq)))) ?_ ?_); (focus (repeat (first | (with_reducible exact Only.refl _ _) | (with_reducible refine Only.set ?_)))); rfl) | ((with_reducible refine writeB_mk (Cells.set (Cells.set (Cells.set (Cells.set (Cells.set hkq))))) ?_ ?_); (focus (repeat (first | (with_reducible exact Only.refl _ _) | (with_reducible refine Only.set ?_)))); rfl) | ((with_reducible refine writeB_mk (Cells.set (Cells.set (Cells.set (Cells.set (Cells.set (Cells.set hkq)))))) ?_ ?_); (focus (repeat (first | (with_reducible exact Only.refl _ _) | (with_reducible refine Only.set ?_)))); rfl) | ((with_reducible refine writeB_mk (Cells.set (Cells.set (Cells.set (Cells.set (Cells.set (Cells.set (Cells.set hkq))))))) ?_ ?_); (focus (repeat (first | (with_reducible exact Only.refl _ _) | (with_reducible refine Only.set ?_)))); rfl) | ((with_reducible refine writeB_mk (Cells.set (Cells.set (Cells.set (Cells.set (Cells.set (Cells.set (Cells.set (Cells.set hkq)))))))) ?_ ?_); (focus (repeat (first | (with_reducible exact Only.refl _ _) | (with_reducible refine Only.set ?_)))); rfl))
    refine walkR_nil (fun X hX wz hwz hcz => ?_)
    have kz0 := hcz 4 (by simp)
    rw [show X 4 = B8 from hX.at0 0 _ rfl] at kz0
    simp only [updC_some, updC_none, Nat.reduceEqDiff, ↓reduceIte] at kz0
    have kz1 := hcz 5 (by simp)
    rw [show X 5 = B9 from hX.at0 1 _ rfl] at kz1
    replace kz1 : Cells wz B9 [y] := kz1
    clear hX hcz
    (try clear X)
    have y9 := kz1.cell 0 rfl
    have z9 := kz1.2.2
    have r9 := kz1.1
    have ho := hwz.unDrew
    have k8z := kz0
    clear hwz kz0
    refine pl ?_
    refine lsn ?_
    refine ⟨rfl, _, rfl, .tuple #[], res_none Tryz.results53, rfl, rfl, ?_, ?_, ?_⟩
    · exact k8z.setFar h89
    · exact Cells.set (i := 0) kz1
    · exact ho.set (by simp)
  case dep1 =>
    refine dR ?_
    refine dR ?_
    refine dR ?_
    exact depR_nil
theorem rep1_ret (B8 B9 : Nat) (w : World) : CallsDIn Fence.wide 0 Tryz.prog 53 #[.pointer (some ⟨B8, 0, none⟩), .pointer (some ⟨B9, 0, none⟩)] .returning w fun e u' w' => e = .returned (.tuple #[]) ∧ u' = .returning ∧ w' = w := by
  refine callsDIn_of_wpSIn Tryz.func53 rfl trivial fun c₀ cs hu => ?_
  apply wpSIn_seq
  apply wpSIn_region
  simp [wpOpsSIn, go_sem, recoverD, hu, Tryz.ntmps53, Exit.thenS, Fence.wide]
  apply wpSIn_seq
  apply wpSIn_region
  simp [wpOpsSIn, go_sem, recoverD, hu, Tryz.ntmps53, Exit.thenS, Fence.wide]
  refine wpSIn_cond (t := false) (by simp [Act.eval, Array.replicate]) ?_
  simp only [Bool.false_eq_true, if_false]
  refine wpSIn_of_wpIn rfl (wpIn_wide.2 (wp_skip ?_))
  cases c₀
  simp_all [bodyPostS, results, Tryz.results53]
/-- the deferred call -/
def repD (B8 B9 : Nat) : Deferred := { target := .fn (.func 53) #[.pointer (some ⟨B8, 0, none⟩), .pointer (some ⟨B9, 0, none⟩)], args := #[] }
theorem res_rep {tmps : Array Value} {w : World} {b1 b2 : Nat} {v : Value} {e : Int} (e1 : tmps.getD 2 undef = .pointer (some ⟨b1, 0, none⟩)) (e2 : tmps.getD 3 undef = .pointer (some ⟨b2, 0, none⟩)) (k1 : Cells w b1 [v]) (k2 : Cells w b2 [.int .i64 e]) (hv : v.oneCell' = true) :
    (results Tryz.f19 tmps).run Tryz.prog w = .ok (.tuple #[v, .int .i64 e]) w := by
  have c1 := k1.cell 0 rfl; have c2 := k2.cell 0 rfl
  simp only [Array.getD_eq_getD_getElem?] at *
  simp only [results, Tryz.results19]
  simp [Sem.run_bind, Result.andThen, e1, e2, asAddr, go_sem, c1, c2]
theorem rep_leave_ret {n : Nat} {s : Nat → Value} {w : World} {B8 B9 : Nat} {Ds : List Nat} {v : Value} {e : Int} {R : Ending → World → Prop} (hn : 3 < n) (sl8 : s 2 = .pointer (some ⟨B8, 0, none⟩)) (sl9 : s 3 = .pointer (some ⟨B9, 0, none⟩)) (hD : ∀ D ∈ Ds, w.heap[D]? = some (.deferred (some []))) (hd : Ds.Nodup)
    (k8 : Cells w B8 [v]) (k9 : Cells w B9 [.int .i64 e]) (n8 : B8 ∉ Ds) (n9 : B9 ∉ Ds) (hv : v.oneCell' = true) (hR : R (.returned (.tuple #[v, .int .i64 e])) (shut Ds w)) : bodyPostM Fence.wide 0 Tryz.prog Tryz.f19 R .ret (mkA n s (marks Ds [repD B8 B9])) w := by
  show LeavesInM Fence.wide 0 Tryz.prog Tryz.f19 (tmA n s) R (marks Ds [repD B8 B9]) .returning w
  refine leave_marks (by simp) Ds w hD hd ⟨by simp, .inr ⟨fun h => (by simp [Fence.wide] at h), .func 53, #[.pointer (some ⟨B8, 0, none⟩), .pointer (some ⟨B9, 0, none⟩)], 53, #[.pointer (some ⟨B8, 0, none⟩), .pointer (some ⟨B9, 0, none⟩)], rfl, by simp [repD, invoke, go_sem], fun _ _ => trivial, (rep1_ret B8 B9 _).mono ?_⟩⟩; rintro e' u' w' ⟨rfl, rfl, rfl⟩; exact ⟨_, res_rep ((getD_F (by omega)).trans sl8) ((getD_F (by omega)).trans sl9) (k8.shut n8) (k9.shut n9) hv, hR⟩
theorem rep_leave_pan {er : Int} {n : Nat} {s : Nat → Value} {w : World} {B8 B9 : Nat} {Ds : List Nat} {v y : Value} {R : Ending → World → Prop} (hn : 3 < n) (sl8 : s 2 = .pointer (some ⟨B8, 0, none⟩)) (sl9 : s 3 = .pointer (some ⟨B9, 0, none⟩)) (hD : ∀ D ∈ Ds, w.heap[D]? = some (.deferred (some []))) (hd : Ds.Nodup)
    (k8 : Cells w B8 [v]) (k9 : Cells w B9 [y]) (h89 : ¬ B8 = B9) (n8 : B8 ∉ Ds) (n9 : B9 ∉ Ds) (hR : ∀ w', OldB [B8, B9] (shut Ds w) w' → R (.returned (.tuple #[.slice none 0 0, .int .i64 er])) w') : bodyPostM Fence.wide 0 Tryz.prog Tryz.f19 R (.panic (errPanic er false)) (mkA n s (marks Ds [repD B8 B9])) w := by
  show LeavesInM Fence.wide 0 Tryz.prog Tryz.f19 (tmA n s) R (marks Ds [repD B8 B9]) (.panicking (errPanic er false)) w
  refine leave_marks (by simp) Ds w hD hd ⟨by simp, .inr ⟨fun h => (by simp [Fence.wide] at h), .func 53, #[.pointer (some ⟨B8, 0, none⟩), .pointer (some ⟨B9, 0, none⟩)], 53, #[.pointer (some ⟨B8, 0, none⟩), .pointer (some ⟨B9, 0, none⟩)], rfl, by simp [repD, invoke, go_sem], fun _ _ => trivial, (rep1_pan er B8 B9 v y _ (k8.shut n8) (k9.shut n9) h89).mono ?_⟩⟩; rintro e' u' w' ⟨rfl, rfl, k8', k9', ho⟩; exact ⟨_, res_rep ((getD_F (by omega)).trans sl8) ((getD_F (by omega)).trans sl9) k8' k9' rfl, hR _ ho⟩


/-- a call that panics -/
theorem callpan_in {P : Program} {n m : Nat} {o : Oper} {os : List Oper} {ops : Array Oper} {s : Nat → Value} {w : World} {Q : Exit → Act → World → Prop} {ds : List Deferred} {f : FuncId} {args : Array Value} {ch : List PanicEntry}
    (hr : (execOp (evF n s) o).run P w = .ok (.enter f args) w) (h : Calls P f args w fun e w' => e = .panicked ch ∧ Q (.panic ch) (mkA n s ds) w') (hg : o.guard = none := by rfl) (hd : ∀ c, o.op ≠ .defer c := by intro c h; cases h) : wpListIn (Fw none) m P ops Q (o :: os) (mkA n s ds) w := by
  unfold wpListIn; rw [if_pos (by simp [Region.wanted, hg])]; refine ⟨fun _ _ => trivial, ?_⟩
  show o.uponIn (Fw none) m P (mkA n s ds) _ Q ((o.semAt none (mkA n s ds).eval).run P w)
  rw [semAt_any hd, mkA_eval, hr, Oper.uponIn_enter]; refine ⟨fun h => (by simp [Fw, Fence.wide] at h), callsIn_Fw (h.mono ?_)⟩; rintro e w' ⟨rfl, hq⟩; exact hq
end

section
open Go.RowKit

def chOk (k : Nat) (c : UInt8) : Bool := (decide (97 ≤ c.toNat) && decide (c.toNat ≤ 122)) || (k != 0 && (c.toNat == 95 || (decide (48 ≤ c.toNat) && decide (c.toNat ≤ 57))))
def nameOk (s : ByteArray) : Bool := decide (1 ≤ s.size) && decide (s.size ≤ 20) && (s.get! (s.size - 1)).toNat != 95 && (List.range s.size).all fun i => chOk i (s.get! i)
abbrev inb := inI
theorem inb_iff (n a b : Int) : inb n a b = true ↔ a ≤ n ∧ n ≤ b := inI_iff n a b
theorem getb {s : ByteArray} {k : Nat} (h : k < s.size) : s.get! k = s[k] := by
  simp [ByteArray.get!, ByteArray.getElem_eq_getElem_data, h]
theorem nameOk_false_size {s : ByteArray} (h : s.size < 1 ∨ 20 < s.size) : nameOk s = false := by
  unfold nameOk
  rcases h with h | h
  · have : decide (1 ≤ s.size) = false := decide_eq_false (by omega)
    simp [this]
  · have : decide (s.size ≤ 20) = false := decide_eq_false (by omega)
    simp [this]
theorem nameOk_false_last {s : ByteArray} (h : 0 < s.size) (hl : (s[s.size - 1]'(by omega)).toNat = 95) : nameOk s = false := by
  unfold nameOk
  rw [getb (show s.size - 1 < s.size by omega)]
  simp [hl]
theorem nameOk_false_at {s : ByteArray} {k : Nat} (hk : k < s.size) (h : chOk k s[k] = false) : nameOk s = false := by
  unfold nameOk
  have : ((List.range s.size).all fun i => chOk i (s.get! i)) = false := by
    rw [List.all_eq_false]
    exact ⟨k, by simpa using hk, by rw [getb hk, h]; simp⟩
  simp [this]
theorem nameOk_true {s : ByteArray} (h1 : 1 ≤ s.size) (h2 : s.size ≤ 20) (hl : (s[s.size - 1]'(by omega)).toNat ≠ 95) (h : ∀ k, k < s.size → chOk k (s.get! k) = true) : nameOk s = true := by
  unfold nameOk
  have : ((List.range s.size).all fun i => chOk i (s.get! i)) = true := by
    rw [List.all_eq_true]
    intro i hi
    exact h i (by simpa using hi)
  rw [getb (show s.size - 1 < s.size by omega)]
  simp [this, h1, h2, hl]


theorem lout_any (a b c : Int) (w : World) : Calls Tryz.prog 89 #[.int .i64 a, .int .i64 b, .int .i64 c] w fun e w' => e = .returned (.bool (!inb a b c)) ∧ w = w' := by
  unfold inb inI
  go_enter Tryz.func89, Tryz.ntmps89
  go_wp2
  all_goals go_ret
  all_goals (refine ⟨ret_bool ?_, rfl⟩; rw [Bool.eq_iff_iff]; simp; try omega)
theorem conv_bytes (w : World) (s : ByteArray) : ∃ cap W', (convert 9 136 (.string s)).run Tryz.prog w = .ok (.slice (some ⟨w.heap.size, 0, none⟩) s.size cap) W' ∧ Below w.heap.size w W' ∧ w.heap.size < W'.heap.size ∧
    ∀ j (h : j < s.size), W'.cell? ⟨w.heap.size, j, none⟩ = some (.int .u8 s[j].toNat) := by
  refine ⟨_, _, run_bytes_of_string w 9 136 5 s Tryz.underlying9 Tryz.underlying136 Tryz.underlying5, ?_, ?_, ?_⟩
  · exact ((Below.refl _ w).drew).alloc (Nat.le_refl _) _
  · simp
  · intro j h
    simp only [World.cell?, World.alloc, World.drew]
    simp [bytesRow]
    rw [Array.getElem?_append_left (by simpa using h)]
    have h' : j < s.data.size := by simpa using h
    rw [ByteArray.getElem_eq_getElem_data]
    simp
    exact ⟨_, Array.getElem?_eq_getElem h', rfl⟩

theorem lname_any (s : ByteArray) (w : World) (hs : s.size ≤ 9223372036854775807) :
    Calls Tryz.prog 56 #[.string s] w fun e w' => e = .returned (.bool (nameOk s)) ∧ Below w.heap.size w w' := by
  by_cases hin : inb s.size 1 20 = true
  · obtain ⟨h1, h2⟩ := (inb_iff _ _ _).1 hin
    have hlast : s.size - 1 < s.size := by omega
    by_cases hl : (s[s.size - 1]).toNat = 95
    · have hl' : (((s[s.size - 1]).toNat : Int) == 95) = true := by simp [hl]
      have hfin := nameOk_false_last (by omega) hl
      have Hfin := hid hfin
      clear hl hfin
      go_enter Tryz.func56, Tryz.ntmps56
      go_wp2_with (go_at_call 89; refine (lout_any _ _ _ _).mono ?_; rintro e w' ⟨rfl, rfl⟩)
      go_ret
      exact ⟨ret_bool Hfin.out.symm, Below.refl _ _⟩
    · have hl' : (((s[s.size - 1]).toNat : Int) == 95) = false := by simp; omega
      have Hl := hid hl
      clear hl
      obtain ⟨cap, W, hconv, hBW, hsz, hcells⟩ := conv_bytes w s
      go_enter Tryz.func56, Tryz.ntmps56
      go_wp2_with (go_at_call 89; refine (lout_any _ _ _ _).mono ?_; rintro e w' ⟨rfl, rfl⟩)
      clear hconv
      go_loopw [3, 4, 19] (fun _ _ i wr => ∃ k : Nat, k ≤ s.size ∧ i = .int .i64 k ∧ Hid (∀ j, j < k → chOk j (s.get! j) = true) ∧ wr = W) (fun _ _ i _ => s.size - (intOf i).toNat)
      case atStart => exact ⟨0, Nat.zero_le _, rfl, hid (by intro j hj; omega), rfl⟩
      case round =>
        obtain ⟨k, hk, rfl, hw, rfl⟩ := hrel
        by_cases hlt : k < s.size
        · have hge := getb hlt
          have Hge := hid hge; clear hge
          have hcell := hcells k hlt
          have Hcells := hid hcells; clear hcells
          have hch : ∀ b : Bool, chOk k s[k] = b → ((((97 ≤ (s[k].toNat : Int) ∧ (s[k].toNat : Int) ≤ 122) ∨ ((k : Int) ≠ 0 ∧ ((s[k].toNat : Int) = 95 ∨ (48 ≤ (s[k].toNat : Int) ∧ (s[k].toNat : Int) ≤ 57)))) ↔ b = true)) := by
            intro b hb; subst hb; unfold chOk; simp; omega
          rcases dec_or (97 ≤ (s[k].toNat : Int)) with t1 | t1 <;> rcases dec_or ((s[k].toNat : Int) ≤ 122) with t2 | t2 <;> rcases dec_or (48 ≤ (s[k].toNat : Int)) with t3 | t3 <;> rcases dec_or ((s[k].toNat : Int) ≤ 57) with t4 | t4 <;>
            rcases beq_or (s[k].toNat : Int) 95 with t5 | t5 <;> rcases dec_or (0 < k) with t6 | t6 <;> rcases Bool.eq_false_or_eq_true (chOk k s[k]) with t7 | t7 <;>
            first
            | (exfalso; have := hch _ t7; simp at t1 t2 t3 t4 t5 t6; simp at this; omega)
            | (have H7 := hid t7
               clear hch t7
               go_wp2
               first
               | (go_ret
                  exact ⟨ret_bool (nameOk_false_at hlt H7.out).symm, hBW⟩)
               | (go_roundw
                  case rel => refine ⟨k + 1, by omega, by go_num, hid ?_, trivial⟩; intro j hj; by_cases hjk : j < k; exact hw.out j hjk; have hjk' : j = k := by omega
                              rw [hjk', Hge.out]; exact H7.out
                  case measure => simp [intOf]; omega))
        · go_wp2
          go_ret
          exact ⟨ret_bool (nameOk_true (by omega) (by omega) Hl.out (fun j hj => hw.out j (by omega))).symm, hBW⟩
  · have hin' : inb s.size 1 20 = false := by simpa using hin
    have hfin : nameOk s = false := nameOk_false_size (by rcases Nat.lt_or_ge s.size 1 with h | h; exact .inl h; right; have := (inb_iff s.size 1 20); rw [hin'] at this; simp at this; omega)
    have Hfin := hid hfin
    clear hin hfin
    go_enter Tryz.func56, Tryz.ntmps56
    go_wp2_with (go_at_call 89; refine (lout_any _ _ _ _).mono ?_; rintro e w' ⟨rfl, rfl⟩)
    go_ret
    exact ⟨ret_bool Hfin.out.symm, Below.refl _ _⟩
end

section
open Go.RowKit

set_option maxRecDepth 100000
theorem laidOut : laidOutB Tryz.prog = true := by kernel_rfl
theorem markRow : (104 : TypeId) < Tryz.prog.types.size := of_decide_eq_true (by kernel_rfl)
theorem markWide : (match Tryz.prog.underlying 104 with | some (.array _ _) | some (.struct _) => true | _ => false) = true := by rw [Tryz.underlying104]
theorem markLaw : Go.WideMaps.KeyLaw Tryz.prog 104 := deep_law_laid laidOut (m := 2) (by omega) markRow (by kernel_rfl) markWide
theorem KM : Maps.Keyed Tryz.prog 104 := Maps.Keyed.of_law markLaw
theorem litsI {d : Nat} {n : Int} (w : (Lit.int .i64 n).wf = true) : Tryz.prog.keyLits (d + 1) 3 [.int .i64 n] = some [.int .i64 n] := by
  unfold Program.keyLits; simp [Tryz.underlying3, w]
theorem keyM {a b : Int} (wa : (Lit.int .i64 a).wf = true) (wb : (Lit.int .i64 b).wf = true) : ∃ kl, keyOf Tryz.prog 104 (.agg #[.int .i64 a, .int .i64 b]) = some kl := by
  have hk : Tryz.prog.keyType 104 = true := by kernel_rfl
  have hc : Tryz.prog.cellsOf 104 = 2 := by kernel_rfl
  have hc3 : Tryz.prog.cellsOf 3 = 1 := by kernel_rfl
  have hs : Tryz.prog.types.size = 203 + 1 := by kernel_rfl
  unfold keyOf
  simp only [Tryz.underlying104]
  rw [if_pos (by simp [hk, Value.formed, Tryz.underlying104, hc]), hs]; unfold Program.keyLits
  simp only [Tryz.underlying104, Value.cells]
  rw [if_pos ⟨by rw [hc]; rfl, by kernel_rfl⟩]; have e0 := litsI (d := 203) wa; have e1 := litsI (d := 203) wb
  simp [hc3, e0, e1]


def entErr (x : Ent) : Int := if inI x.num 1 1000000 = false ∨ inI x.mach 1 2 = false ∨ inI x.day 0 40000 = false then 7 else if nameOk x.unit = false then 6 else 0
def entsErr (l : List Ent) : Int := ((l.find? fun x => entErr x != 0).map entErr).getD 0
def fileErr (l : List Ent) : Int := if 60 < l.length then 3 else entsErr l
def filesErr (fs : List (List Ent)) : Int := ((fs.find? fun f => fileErr f != 0).map fileErr).getD 0
instance (all : List Ent) : Decidable (NoConf all) := by unfold NoConf; infer_instance
/-- what Merge answers -/
def mergeErr (fs : List (List Ent)) : Int := if 8 < fs.length then 3 else if filesErr fs ≠ 0 then filesErr fs else if NoConf fs.flatten then 0 else 5
def mergeR (fs : List (List Ent)) : List Ent × Int := if mergeErr fs ≠ 0 then ([], mergeErr fs) else (mergeS fs.flatten, 0)
theorem findE_none {β : Type} {g : β → Int} {l : List β} (h : ∀ j (hj : j < l.length), g l[j] = 0) : ((l.find? fun x => g x != 0).map g).getD 0 = 0 := by
  rw [List.find?_eq_none.2 (fun x hx => by obtain ⟨j, hj, rfl⟩ := List.mem_iff_getElem.1 hx; simp [h j hj])]; rfl
theorem findE_some {β : Type} {g : β → Int} {l : List β} {i : Nat} (hi : i < l.length) (h : ∀ j (hj : j < l.length), j < i → g l[j] = 0) (he : g l[i] ≠ 0) : ((l.find? fun x => g x != 0).map g).getD 0 = g l[i] := by
  have : l.find? (fun x => g x != 0) = some l[i] := by
    rw [List.find?_eq_some_iff_getElem]; exact ⟨by simpa using he, i, hi, rfl, fun j hj => by simpa using h j (by omega) hj⟩
  rw [this]; rfl
theorem merge_bad {fs : List (List Ent)} {e : Int} (h : mergeErr fs = e) (he : e ≠ 0) : mergeR fs = ([], e) := by unfold mergeR; rw [h, if_pos he]
theorem merge_many {fs : List (List Ent)} (h : 8 < fs.length) : mergeErr fs = 3 := by unfold mergeErr; rw [if_pos h]
theorem merge_file {fs : List (List Ent)} (h8 : fs.length ≤ 8) {i : Nat} (hi : i < fs.length) (h : ∀ j (hj : j < fs.length), j < i → fileErr fs[j] = 0) {e : Int} (he : fileErr fs[i] = e) (hne : e ≠ 0) : mergeErr fs = e := by
  have := findE_some hi h (by rw [he]; exact hne); unfold mergeErr; rw [if_neg (by omega), if_pos (by unfold filesErr; rw [this, he]; exact hne)]; unfold filesErr; rw [this, he]
theorem merge_ent {fs : List (List Ent)} (h8 : fs.length ≤ 8) {i : Nat} (hi : i < fs.length) (h : ∀ j (hj : j < fs.length), j < i → fileErr fs[j] = 0) {l : List Ent} (hl : fs[i] = l) (h60 : l.length ≤ 60) {k : Nat} (hk : k < l.length) (h2 : ∀ j (hj : j < l.length), j < k → entErr l[j] = 0) {e : Int} (he : entErr l[k] = e) (hne : e ≠ 0) : mergeErr fs = e := by
  refine merge_file h8 hi h ?_ hne; rw [hl]; unfold fileErr; rw [if_neg (by omega)]; have := findE_some hk h2 (by rw [he]; exact hne); unfold entsErr; rw [this, he]
theorem file_ok {l : List Ent} (h60 : l.length ≤ 60) (h : ∀ j (hj : j < l.length), entErr l[j] = 0) : fileErr l = 0 := by unfold fileErr; rw [if_neg (by omega)]; exact findE_none h
theorem merge_conf {fs : List (List Ent)} (h8 : fs.length ≤ 8) (h : ∀ j (hj : j < fs.length), fileErr fs[j] = 0) (hc : ¬ NoConf fs.flatten) : mergeErr fs = 5 := by
  unfold mergeErr filesErr; rw [if_neg (by omega), findE_none h, if_neg (by decide), if_neg hc]
theorem merge_ok {fs : List (List Ent)} (h8 : fs.length ≤ 8) (h : ∀ j (hj : j < fs.length), fileErr fs[j] = 0) (hc : NoConf fs.flatten) : mergeR fs = (mergeS fs.flatten, 0) := by
  have : mergeErr fs = 0 := by unfold mergeErr filesErr; rw [if_neg (by omega), findE_none h, if_neg (by decide), if_pos hc]
  unfold mergeR; rw [this, if_neg (by decide)]
theorem entErr_zero {x : Ent} : entErr x = 0 ↔ (inI x.num 1 1000000 = true ∧ inI x.mach 1 2 = true ∧ inI x.day 0 40000 = true) ∧ nameOk x.unit = true := by
  unfold entErr
  cases inI x.num 1 1000000 <;> cases inI x.mach 1 2 <;> cases inI x.day 0 40000 <;> cases nameOk x.unit <;> simp
theorem entB_of {x : Ent} (h : entErr x = 0) : EntB x := by
  obtain ⟨⟨h1, h2, h3⟩, _⟩ := entErr_zero.1 h; exact ⟨(inI_iff _ _ _).1 h1, (inI_iff _ _ _).1 h2, (inI_iff _ _ _).1 h3⟩
theorem file_all {l : List Ent} (h : fileErr l = 0) : l.length ≤ 60 ∧ ∀ x ∈ l, entErr x = 0 := by
  unfold fileErr at h
  split at h
  · cases h
  · refine ⟨by omega, fun x hx => ?_⟩
    unfold entsErr at h
    cases hf : l.find? (fun x => entErr x != 0) with
    | none => have := List.find?_eq_none.1 hf x hx; simpa using this
    | some y => rw [hf] at h; have := List.find?_some hf; simp at h this; exact absurd h this
theorem ent_cases (x : Ent) : inI x.num 1 1000000 = false ∨ (inI x.num 1 1000000 = true ∧ inI x.mach 1 2 = false) ∨ (inI x.num 1 1000000 = true ∧ inI x.mach 1 2 = true ∧ inI x.day 0 40000 = false) ∨ (inI x.num 1 1000000 = true ∧ inI x.mach 1 2 = true ∧ inI x.day 0 40000 = true) := by
  cases inI x.num 1 1000000 <;> cases inI x.mach 1 2 <;> cases inI x.day 0 40000 <;> simp
/- what the map of the marks seen holds -/
abbrev entV (x : Ent) : Value := .agg #[.int .i64 x.num, .int .i64 x.mach, .int .i64 x.day, .string x.unit]
abbrev kvM (k : Int × Int) : Value := .agg #[.int .i64 k.1, .int .i64 k.2]
def lookE (l : List Ent) (k : Int × Int) : Option Ent := l.reverse.find? fun x => decide ((x.mach, x.num) = k)
theorem lookE_snoc (l : List Ent) (x : Ent) (k : Int × Int) : lookE (l ++ [x]) k = if k = (x.mach, x.num) then some x else lookE l k := by
  unfold lookE; rw [List.reverse_append, List.reverse_singleton, List.singleton_append, List.find?_cons]
  by_cases h : (x.mach, x.num) = k
  · rw [if_pos h.symm]; simp [h]
  · rw [if_neg (fun e => h e.symm)]; simp [h]
theorem lookE_none {l : List Ent} {k : Int × Int} (h : lookE l k = none) {x : Ent} (hx : x ∈ l) : ¬ (x.mach, x.num) = k := by
  have := List.find?_eq_none.1 h x (by simpa using hx)
  simpa using this
theorem lookE_some {l : List Ent} {k : Int × Int} {y : Ent} (h : lookE l k = some y) : y ∈ l ∧ (y.mach, y.num) = k :=
  ⟨by have := List.mem_of_find?_eq_some h; simpa using this, by have := List.find?_some h; simpa using this⟩
theorem noConf_snoc {l : List Ent} {x : Ent} (h : NoConf l) (hx : ∀ y ∈ l, (y.mach, y.num) = (x.mach, x.num) → y = x) : NoConf (l ++ [x]) := by
  intro a ha b hb h1 h2
  rcases List.mem_append.1 ha with a1 | a1 <;> rcases List.mem_append.1 hb with b1 | b1
  · exact h a a1 b b1 h1 h2
  · rw [List.mem_singleton] at b1; rw [b1]; rw [b1] at h1 h2; exact hx a a1 (by rw [h1, h2])
  · rw [List.mem_singleton] at a1; rw [a1]; rw [a1] at h1 h2; exact (hx b b1 (by rw [h1, h2])).symm
  · rw [List.mem_singleton] at a1 b1; rw [a1, b1]
theorem noConf_new {l : List Ent} {x : Ent} (h : NoConf l) (hn : lookE l (x.mach, x.num) = none) : NoConf (l ++ [x]) := noConf_snoc h fun y hy e => absurd e (lookE_none hn hy)
theorem noConf_was {l : List Ent} {x y : Ent} (h : NoConf l) (hn : lookE l (x.mach, x.num) = some y) (e : x = y) : NoConf (l ++ [x]) := by
  subst e
  refine noConf_snoc h fun z hz e => ?_
  obtain ⟨h1, _⟩ := lookE_some hn; have h3 := Prod.mk.inj e; exact h z hz x h1 h3.2 h3.1
theorem conf_at {all : List Ent} {i : Nat} {x y : Ent} (hi : i < all.length) (hx : all[i] = x) (hn : lookE (all.take i) (x.mach, x.num) = some y) (e : ¬ x = y) : ¬ NoConf all := by
  intro h; obtain ⟨h1, h2⟩ := lookE_some hn; have h3 := Prod.mk.inj h2; exact e (h x (by rw [← hx]; exact List.getElem_mem hi) y (List.mem_of_mem_take h1) h3.2.symm h3.1.symm)
theorem catE_flat (xs : List SlE) : catE xs xs.length = (xs.map SlE.l).flatten := by unfold catE; rw [List.take_length, List.flatMap_def]
end

section
open Go.RowKit

set_option maxRecDepth 100000
theorem untRow : (69 : TypeId) < Tryz.prog.types.size := of_decide_eq_true (by kernel_rfl)
theorem untWide : (match Tryz.prog.underlying 69 with | some (.array _ _) | some (.struct _) => true | _ => false) = true := by rw [Tryz.underlying69]
theorem untLaw : Go.WideMaps.KeyLaw Tryz.prog 69 := deep_law_laid laidOut (m := 2) (by omega) untRow (by kernel_rfl) untWide
abbrev kvU (u : Unt) : Value := .agg #[.int .i64 u.mach, .string u.unit]
theorem kvU_inj (x y : Unt) (h : kvU x = kvU y) : x = y := by cases x; cases y; simpa [kvU] using h
theorem litsS {d : Nat} {s : ByteArray} (h : s.size ≤ maxLen) : Tryz.prog.keyLits (d + 1) 9 [.string s] = some [.string s.data.toList] := by
  unfold Program.keyLits; simp [Tryz.underlying9, h]
theorem keyU {u : Unt} (wa : (Lit.int .i64 u.mach).wf = true) (hs : u.unit.size ≤ maxLen) : ∃ kl, keyOf Tryz.prog 69 (kvU u) = some kl := by
  have hk : Tryz.prog.keyType 69 = true := by kernel_rfl
  have hc : Tryz.prog.cellsOf 69 = 2 := by kernel_rfl
  have hc3 : Tryz.prog.cellsOf 3 = 1 := by kernel_rfl
  have hc9 : Tryz.prog.cellsOf 9 = 1 := by kernel_rfl
  have hz : Tryz.prog.types.size = 203 + 1 := by kernel_rfl
  unfold keyOf
  simp only [Tryz.underlying69]
  rw [if_pos (by simp [hk, Value.formed, Tryz.underlying69, hc]), hz]
  unfold Program.keyLits
  simp only [Tryz.underlying69, Value.cells]
  rw [if_pos ⟨by rw [hc]; rfl, by kernel_rfl⟩]
  have e0 := litsI (d := 203) wa
  have e1 := litsS (d := 203) hs
  simp [hc3, hc9, e0, e1]
end


end Go.Proofs.YtleknidlgmmgbaaGreat
