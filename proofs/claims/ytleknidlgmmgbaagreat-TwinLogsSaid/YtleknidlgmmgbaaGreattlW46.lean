/- The days of each unit, in a map of the call's own. -/
import Derived.Test.YtleknidlgmmgbaaGreattlW40
import Derived.DeepKeys4
set_option linter.all false
set_option maxRecDepth 100000
set_option maxHeartbeats 16000000
namespace Go.Proofs.YtleknidlgmmgbaaGreat

section
open Go.RowKit


def errPanic (e : Int) (r : Bool) : List PanicEntry := [{ v := .iface 30 (.int .i64 e), recovered := r }]
theorem rep1_pan (er : Int) (B8 B9 : Nat) (x y : Value) (w : World) (k8 : Cells w B8 [x]) (k9 : Cells w B9 [y]) (h89 : ¬ B8 = B9) :
    CallsDIn Fence.wide 0 Tryz.prog 53 #[.pointer (some ⟨B8, 0, none⟩), .pointer (some ⟨B9, 0, none⟩)] (.panicking (errPanic er false)) w fun e u' w' => e = .returned (.tuple #[]) ∧ u' = .panicking (errPanic er true) ∧ Cells w' B8 [.slice none 0 0] ∧ Cells w' B9 [.int .i64 er] ∧ OldB [B8, B9] w w' := by
  refine callsDIn_of_wpSIn Tryz.func53 rfl trivial fun c₀ cs hu => ?_
  apply wpSIn_seq
  apply wpSIn_region
  have hu' : c₀.mode = .panicking [{ v := .iface 30 (.int .i64 er), recovered := false, goexit := false }] := hu
  simp [wpOpsSIn, go_sem, recoverD, hu', Tryz.ntmps53, Exit.thenS, Fence.wide]
  apply wpSIn_seq
  apply wpSIn_region
  simp [wpOpsSIn, go_sem, recoverD, hu', Tryz.ntmps53, Exit.thenS, Fence.wide]
  refine wpSIn_cond (t := true) (by simp [Act.eval, Array.replicate]) ?_
  simp only [if_true]
  refine wpSIn_of_wpIn rfl (wpIn_wide.2 (wp_toF (n := 8) rfl (by simp) fun s hs => ?_))
  have Z0 : s 0 = .pointer (some ⟨B8, 0, none⟩) := by rw [hs]; rfl
  have Z1 : s 1 = .pointer (some ⟨B9, 0, none⟩) := by rw [hs]; rfl
  have Z2 : s 2 = .iface 30 (.int .i64 er) := by rw [hs]; rfl
  clear hs; have q8 := k8.1; have q9 := k9.1; have c8 := k8.cell 0 rfl
  have h98 : ¬ B9 = B8 := fun e => h89 e.symm
  refine regionR_F [B8, B9] [[x], [y]] [4, 5] [.q [], .q [], .st 4] [?v1_0, ?v1_1, fun _ => undef] [fun _ => [], fun _ => [], ?c1_2] (by kernel_rfl) (by kernel_rfl) (by kernel_rfl) (by kernel_rfl) (by kernel_rfl) (by first | exact List.nodup_nil | exact List.nodup_singleton _ | (simp; done) | (simp; omega)) (bc_cons (by repeat (first | (with_reducible exact k8) | (with_reducible refine Cells.drew ?_) | (with_reducible refine Cells.up ?_ _) | (with_reducible refine Cells.setFar ?_ (by omega)))) (bc_cons (by repeat (first | (with_reducible exact k9) | (with_reducible refine Cells.drew ?_) | (with_reducible refine Cells.up ?_ _) | (with_reducible refine Cells.setFar ?_ (by omega)))) bc_nil)) ?walk1 ?dep1
  case walk1 =>
    refine rq ?_
    refine rq ?_
    refine walkR_st (by rfl) (fun X hX wq hwq hkq => ?_) ?_
    · rw [show X 4 = B8 from hX.at0 0 _ rfl] at hkq ⊢
      replace hkq : Cells wq B8 [x] := hkq
      have hks := hkq.1
      have hkz := hkq.2.2
      have hk0 := hkq.cell 0 rfl
      go_simp
      (first | ((with_reducible refine writeB_mk (Cells.set hkq) ?_ ?_); (focus (repeat (first | (with_reducible exact Only.refl _ _) | (with_reducible refine Only.set ?_)))); rfl) | ((with_reducible refine writeB_mk (Cells.set (Cells.set hkq)) ?_ ?_); (focus (repeat (first | (with_reducible exact Only.refl _ _) | (with_reducible refine Only.set ?_)))); rfl) | ((with_reducible refine writeB_mk (Cells.set (Cells.set (Cells.set hkq))) ?_ ?_); (focus (repeat (first | (with_reducible exact Only.refl _ _) | (with_reducible refine Only.set ?_)))); rfl) | ((with_reducible refine writeB_mk (Cells.set (Cells.set (Cells.set (Cells.set hkq)))) ?_ ?_); (focus (repeat (first | (with_reducible exact Only.refl _ _) | (with_reducible refine Only.set ?_)))); rfl) | ((with_reducible refine writeB_mk (Cells.set (Cells.set (Cells.set (Cells.set (Cells.set hkq))))) ?_ ?_); (focus (repeat (first | (with_reducible exact Only.refl _ _) | (with_reducible refine Only.set ?_)))); rfl) | ((with_reducible refine writeB_mk (Cells.set (Cells.set (Cells.set (Cells.set (Cells.set (Cells.set hkq)))))) ?_ ?_); (focus (repeat (first | (with_reducible exact Only.refl _ _) | (with_reducible refine Only.set ?_)))); rfl) | ((with_reducible refine writeB_mk (Cells.set (Cells.set (Cells.set (Cells.set (Cells.set (Cells.set (Cells.set hkq))))))) ?_ ?_); (focus (repeat (first | (with_reducible exact Only.refl _ _) | (with_reducible refine Only.set ?_)))); rfl) | ((with_reducible refine writeB_mk (Cells.set (Cells.set (Cells.set (Cells.set (Cells.set (Cells.set (Cells.set (Cells.set hkq)))))))) ?_ ?_); (focus (repeat (first | (with_reducible exact Only.refl _ _) | (with_reducible refine Only.set ?_)))); rfl))
    refine walkR_nil (fun X hX wz hwz hcz => ?_)
    have kz0 := hcz 4 (by simp)
    rw [show X 4 = B8 from hX.at0 0 _ rfl] at kz0
    simp only [updC_some, updC_none, Nat.reduceEqDiff, ↓reduceIte] at kz0
    have kz1 := hcz 5 (by simp)
    rw [show X 5 = B9 from hX.at0 1 _ rfl] at kz1
    replace kz1 : Cells wz B9 [y] := kz1
    clear hX hcz
    (try clear X)
    have y9 := kz1.cell 0 rfl
    have z9 := kz1.2.2
    have r9 := kz1.1
    have ho := hwz.unDrew
    have k8z := kz0
    clear hwz kz0
    refine pl ?_
    refine lsn ?_
    refine ⟨rfl, _, rfl, .tuple #[], res_none Tryz.results53, rfl, rfl, ?_, ?_, ?_⟩
    · exact k8z.setFar h89
    · exact Cells.set (i := 0) kz1
    · exact ho.set (by simp)
  case dep1 =>
    refine dR ?_
    refine dR ?_
    refine dR ?_
    exact depR_nil
theorem rep1_ret (B8 B9 : Nat) (w : World) : CallsDIn Fence.wide 0 Tryz.prog 53 #[.pointer (some ⟨B8, 0, none⟩), .pointer (some ⟨B9, 0, none⟩)] .returning w fun e u' w' => e = .returned (.tuple #[]) ∧ u' = .returning ∧ w' = w := by
  refine callsDIn_of_wpSIn Tryz.func53 rfl trivial fun c₀ cs hu => ?_
  apply wpSIn_seq
  apply wpSIn_region
  simp [wpOpsSIn, go_sem, recoverD, hu, Tryz.ntmps53, Exit.thenS, Fence.wide]
  apply wpSIn_seq
  apply wpSIn_region
  simp [wpOpsSIn, go_sem, recoverD, hu, Tryz.ntmps53, Exit.thenS, Fence.wide]
  refine wpSIn_cond (t := false) (by simp [Act.eval, Array.replicate]) ?_
  simp only [Bool.false_eq_true, if_false]
  refine wpSIn_of_wpIn rfl (wpIn_wide.2 (wp_skip ?_))
  cases c₀
  simp_all [bodyPostS, results, Tryz.results53]
/-- the deferred call -/
def repD (B8 B9 : Nat) : Deferred := { target := .fn (.func 53) #[.pointer (some ⟨B8, 0, none⟩), .pointer (some ⟨B9, 0, none⟩)], args := #[] }
theorem res_rep {tmps : Array Value} {w : World} {b1 b2 : Nat} {v : Value} {e : Int} (e1 : tmps.getD 2 undef = .pointer (some ⟨b1, 0, none⟩)) (e2 : tmps.getD 3 undef = .pointer (some ⟨b2, 0, none⟩)) (k1 : Cells w b1 [v]) (k2 : Cells w b2 [.int .i64 e]) (hv : v.oneCell' = true) :
    (results Tryz.f19 tmps).run Tryz.prog w = .ok (.tuple #[v, .int .i64 e]) w := by
  have c1 := k1.cell 0 rfl; have c2 := k2.cell 0 rfl
  simp only [Array.getD_eq_getD_getElem?] at *
  simp only [results, Tryz.results19]
  simp [Sem.run_bind, Result.andThen, e1, e2, asAddr, go_sem, c1, c2]
theorem rep_leave_ret {n : Nat} {s : Nat → Value} {w : World} {B8 B9 : Nat} {Ds : List Nat} {v : Value} {e : Int} {R : Ending → World → Prop} (hn : 3 < n) (Z8 : s 2 = .pointer (some ⟨B8, 0, none⟩)) (Z9 : s 3 = .pointer (some ⟨B9, 0, none⟩)) (hD : ∀ D ∈ Ds, w.heap[D]? = some (.deferred (some []))) (hd : Ds.Nodup)
    (k8 : Cells w B8 [v]) (k9 : Cells w B9 [.int .i64 e]) (n8 : B8 ∉ Ds) (n9 : B9 ∉ Ds) (hv : v.oneCell' = true) (hR : R (.returned (.tuple #[v, .int .i64 e])) (shut Ds w)) : bodyPostM Fence.wide 0 Tryz.prog Tryz.f19 R .ret (mkA n s (marks Ds [repD B8 B9])) w := by
  show LeavesInM Fence.wide 0 Tryz.prog Tryz.f19 (tmA n s) R (marks Ds [repD B8 B9]) .returning w
  refine leave_marks (by simp) Ds w hD hd ⟨by simp, .inr ⟨fun h => (by simp [Fence.wide] at h), .func 53, #[.pointer (some ⟨B8, 0, none⟩), .pointer (some ⟨B9, 0, none⟩)], 53, #[.pointer (some ⟨B8, 0, none⟩), .pointer (some ⟨B9, 0, none⟩)], rfl, by simp [repD, invoke, go_sem], fun _ _ => trivial, (rep1_ret B8 B9 _).mono ?_⟩⟩; rintro e' u' w' ⟨rfl, rfl, rfl⟩; exact ⟨_, res_rep ((getD_F (by omega)).trans Z8) ((getD_F (by omega)).trans Z9) (k8.shut n8) (k9.shut n9) hv, hR⟩
theorem rep_leave_pan {er : Int} {n : Nat} {s : Nat → Value} {w : World} {B8 B9 : Nat} {Ds : List Nat} {v y : Value} {R : Ending → World → Prop} (hn : 3 < n) (Z8 : s 2 = .pointer (some ⟨B8, 0, none⟩)) (Z9 : s 3 = .pointer (some ⟨B9, 0, none⟩)) (hD : ∀ D ∈ Ds, w.heap[D]? = some (.deferred (some []))) (hd : Ds.Nodup)
    (k8 : Cells w B8 [v]) (k9 : Cells w B9 [y]) (h89 : ¬ B8 = B9) (n8 : B8 ∉ Ds) (n9 : B9 ∉ Ds) (hR : ∀ w', OldB [B8, B9] (shut Ds w) w' → R (.returned (.tuple #[.slice none 0 0, .int .i64 er])) w') : bodyPostM Fence.wide 0 Tryz.prog Tryz.f19 R (.panic (errPanic er false)) (mkA n s (marks Ds [repD B8 B9])) w := by
  show LeavesInM Fence.wide 0 Tryz.prog Tryz.f19 (tmA n s) R (marks Ds [repD B8 B9]) (.panicking (errPanic er false)) w
  refine leave_marks (by simp) Ds w hD hd ⟨by simp, .inr ⟨fun h => (by simp [Fence.wide] at h), .func 53, #[.pointer (some ⟨B8, 0, none⟩), .pointer (some ⟨B9, 0, none⟩)], 53, #[.pointer (some ⟨B8, 0, none⟩), .pointer (some ⟨B9, 0, none⟩)], rfl, by simp [repD, invoke, go_sem], fun _ _ => trivial, (rep1_pan er B8 B9 v y _ (k8.shut n8) (k9.shut n9) h89).mono ?_⟩⟩; rintro e' u' w' ⟨rfl, rfl, k8', k9', ho⟩; exact ⟨_, res_rep ((getD_F (by omega)).trans Z8) ((getD_F (by omega)).trans Z9) k8' k9' rfl, hR _ ho⟩


/-- a call that panics -/
theorem callpan_in {P : Program} {n m : Nat} {o : Oper} {os : List Oper} {ops : Array Oper} {s : Nat → Value} {w : World} {Q : Exit → Act → World → Prop} {ds : List Deferred} {f : FuncId} {args : Array Value} {ch : List PanicEntry}
    (hr : (execOp (evF n s) o).run P w = .ok (.enter f args) w) (h : Calls P f args w fun e w' => e = .panicked ch ∧ Q (.panic ch) (mkA n s ds) w') (hg : o.guard = none := by rfl) (hd : ∀ c, o.op ≠ .defer c := by intro c h; cases h) : wpListIn (Fw none) m P ops Q (o :: os) (mkA n s ds) w := by
  unfold wpListIn; rw [if_pos (by simp [Region.wanted, hg])]; refine ⟨fun _ _ => trivial, ?_⟩
  show o.uponIn (Fw none) m P (mkA n s ds) _ Q ((o.semAt none (mkA n s ds).eval).run P w)
  rw [semAt_any hd, mkA_eval, hr, Oper.uponIn_enter]; refine ⟨fun h => (by simp [Fw, Fence.wide] at h), callsIn_Fw (h.mono ?_)⟩; rintro e w' ⟨rfl, hq⟩; exact hq
end

section
open Go.RowKit

def chOk (k : Nat) (c : UInt8) : Bool := (decide (97 ≤ c.toNat) && decide (c.toNat ≤ 122)) || (k != 0 && (c.toNat == 95 || (decide (48 ≤ c.toNat) && decide (c.toNat ≤ 57))))
def nameOk (s : ByteArray) : Bool := decide (1 ≤ s.size) && decide (s.size ≤ 20) && (s.get! (s.size - 1)).toNat != 95 && (List.range s.size).all fun i => chOk i (s.get! i)
abbrev inb := inI
theorem inb_iff (n a b : Int) : inb n a b = true ↔ a ≤ n ∧ n ≤ b := inI_iff n a b
theorem getb {s : ByteArray} {k : Nat} (h : k < s.size) : s.get! k = s[k] := by
  simp [ByteArray.get!, ByteArray.getElem_eq_getElem_data, h]
theorem nameOk_false_size {s : ByteArray} (h : s.size < 1 ∨ 20 < s.size) : nameOk s = false := by
  unfold nameOk
  rcases h with h | h
  · have : decide (1 ≤ s.size) = false := decide_eq_false (by omega)
    simp [this]
  · have : decide (s.size ≤ 20) = false := decide_eq_false (by omega)
    simp [this]
theorem nameOk_false_last {s : ByteArray} (h : 0 < s.size) (hl : (s[s.size - 1]'(by omega)).toNat = 95) : nameOk s = false := by
  unfold nameOk
  rw [getb (show s.size - 1 < s.size by omega)]
  simp [hl]
theorem nameOk_false_at {s : ByteArray} {k : Nat} (hk : k < s.size) (h : chOk k s[k] = false) : nameOk s = false := by
  unfold nameOk
  have : ((List.range s.size).all fun i => chOk i (s.get! i)) = false := by
    rw [List.all_eq_false]
    exact ⟨k, by simpa using hk, by rw [getb hk, h]; simp⟩
  simp [this]
theorem nameOk_true {s : ByteArray} (h1 : 1 ≤ s.size) (h2 : s.size ≤ 20) (hl : (s[s.size - 1]'(by omega)).toNat ≠ 95) (h : ∀ k, k < s.size → chOk k (s.get! k) = true) : nameOk s = true := by
  unfold nameOk
  have : ((List.range s.size).all fun i => chOk i (s.get! i)) = true := by
    rw [List.all_eq_true]
    intro i hi
    exact h i (by simpa using hi)
  rw [getb (show s.size - 1 < s.size by omega)]
  simp [this, h1, h2, hl]


theorem lout_any (a b c : Int) (w : World) : Calls Tryz.prog 89 #[.int .i64 a, .int .i64 b, .int .i64 c] w fun e w' => e = .returned (.bool (!inb a b c)) ∧ w = w' := by
  unfold inb inI
  go_enter Tryz.func89, Tryz.ntmps89
  go_wp2
  all_goals go_ret
  all_goals (refine ⟨ret_bool ?_, rfl⟩; rw [Bool.eq_iff_iff]; simp; try omega)
theorem conv_bytes (w : World) (s : ByteArray) : ∃ cap W', (convert 9 136 (.string s)).run Tryz.prog w = .ok (.slice (some ⟨w.heap.size, 0, none⟩) s.size cap) W' ∧ Below w.heap.size w W' ∧ w.heap.size < W'.heap.size ∧
    ∀ j (h : j < s.size), W'.cell? ⟨w.heap.size, j, none⟩ = some (.int .u8 s[j].toNat) := by
  refine ⟨_, _, run_bytes_of_string w 9 136 5 s Tryz.underlying9 Tryz.underlying136 Tryz.underlying5, ?_, ?_, ?_⟩
  · exact ((Below.refl _ w).drew).alloc (Nat.le_refl _) _
  · simp
  · intro j h
    simp only [World.cell?, World.alloc, World.drew]
    simp [bytesRow]
    rw [Array.getElem?_append_left (by simpa using h)]
    have h' : j < s.data.size := by simpa using h
    rw [ByteArray.getElem_eq_getElem_data]
    simp
    exact ⟨_, Array.getElem?_eq_getElem h', rfl⟩

theorem lname_any (s : ByteArray) (w : World) (hs : s.size ≤ 9223372036854775807) :
    Calls Tryz.prog 56 #[.string s] w fun e w' => e = .returned (.bool (nameOk s)) ∧ Below w.heap.size w w' := by
  by_cases hin : inb s.size 1 20 = true
  · obtain ⟨h1, h2⟩ := (inb_iff _ _ _).1 hin
    have hlast : s.size - 1 < s.size := by omega
    by_cases hl : (s[s.size - 1]).toNat = 95
    · have hl' : (((s[s.size - 1]).toNat : Int) == 95) = true := by simp [hl]
      have hfin := nameOk_false_last (by omega) hl
      have Hfin := hid hfin
      clear hl hfin
      go_enter Tryz.func56, Tryz.ntmps56
      go_wp2_with (go_at_call 89; refine (lout_any _ _ _ _).mono ?_; rintro e w' ⟨rfl, rfl⟩)
      go_ret
      exact ⟨ret_bool Hfin.out.symm, Below.refl _ _⟩
    · have hl' : (((s[s.size - 1]).toNat : Int) == 95) = false := by simp; omega
      have Hl := hid hl
      clear hl
      obtain ⟨cap, W, hconv, hBW, hsz, hcells⟩ := conv_bytes w s
      go_enter Tryz.func56, Tryz.ntmps56
      go_wp2_with (go_at_call 89; refine (lout_any _ _ _ _).mono ?_; rintro e w' ⟨rfl, rfl⟩)
      clear hconv
      go_loopw [3, 4, 19] (fun _ _ i wr => ∃ k : Nat, k ≤ s.size ∧ i = .int .i64 k ∧ Hid (∀ j, j < k → chOk j (s.get! j) = true) ∧ wr = W) (fun _ _ i _ => s.size - (intOf i).toNat)
      case atStart => exact ⟨0, Nat.zero_le _, rfl, hid (by intro j hj; omega), rfl⟩
      case round =>
        obtain ⟨k, hk, rfl, hw, rfl⟩ := hrel
        by_cases hlt : k < s.size
        · have hge := getb hlt
          have Hge := hid hge; clear hge
          have hcell := hcells k hlt
          have Hcells := hid hcells; clear hcells
          have hch : ∀ b : Bool, chOk k s[k] = b → ((((97 ≤ (s[k].toNat : Int) ∧ (s[k].toNat : Int) ≤ 122) ∨ ((k : Int) ≠ 0 ∧ ((s[k].toNat : Int) = 95 ∨ (48 ≤ (s[k].toNat : Int) ∧ (s[k].toNat : Int) ≤ 57)))) ↔ b = true)) := by
            intro b hb; subst hb; unfold chOk; simp; omega
          rcases dec_or (97 ≤ (s[k].toNat : Int)) with t1 | t1 <;> rcases dec_or ((s[k].toNat : Int) ≤ 122) with t2 | t2 <;> rcases dec_or (48 ≤ (s[k].toNat : Int)) with t3 | t3 <;> rcases dec_or ((s[k].toNat : Int) ≤ 57) with t4 | t4 <;>
            rcases beq_or (s[k].toNat : Int) 95 with t5 | t5 <;> rcases dec_or (0 < k) with t6 | t6 <;> rcases Bool.eq_false_or_eq_true (chOk k s[k]) with t7 | t7 <;>
            first
            | (exfalso; have := hch _ t7; simp at t1 t2 t3 t4 t5 t6; simp at this; omega)
            | (have H7 := hid t7
               clear hch t7
               go_wp2
               first
               | (go_ret
                  exact ⟨ret_bool (nameOk_false_at hlt H7.out).symm, hBW⟩)
               | (go_roundw
                  case rel => refine ⟨k + 1, by omega, by go_num, hid ?_, trivial⟩; intro j hj; by_cases hjk : j < k; exact hw.out j hjk; have hjk' : j = k := by omega
                              rw [hjk', Hge.out]; exact H7.out
                  case measure => simp [intOf]; omega))
        · go_wp2
          go_ret
          exact ⟨ret_bool (nameOk_true (by omega) (by omega) Hl.out (fun j hj => hw.out j (by omega))).symm, hBW⟩
  · have hin' : inb s.size 1 20 = false := by simpa using hin
    have hfin : nameOk s = false := nameOk_false_size (by rcases Nat.lt_or_ge s.size 1 with h | h; exact .inl h; right; have := (inb_iff s.size 1 20); rw [hin'] at this; simp at this; omega)
    have Hfin := hid hfin
    clear hin hfin
    go_enter Tryz.func56, Tryz.ntmps56
    go_wp2_with (go_at_call 89; refine (lout_any _ _ _ _).mono ?_; rintro e w' ⟨rfl, rfl⟩)
    go_ret
    exact ⟨ret_bool Hfin.out.symm, Below.refl _ _⟩
end

section
open Go.RowKit

set_option maxRecDepth 100000
theorem laidOut : laidOutB Tryz.prog = true := by kernel_rfl
theorem markRow : (104 : TypeId) < Tryz.prog.types.size := of_decide_eq_true (by kernel_rfl)
theorem markWide : (match Tryz.prog.underlying 104 with | some (.array _ _) | some (.struct _) => true | _ => false) = true := by rw [Tryz.underlying104]
theorem markLaw : Go.WideMaps.KeyLaw Tryz.prog 104 := deep_law_laid laidOut (m := 2) (by omega) markRow (by kernel_rfl) markWide
theorem KM : Maps.Keyed Tryz.prog 104 := Maps.Keyed.of_law markLaw
theorem litsI {d : Nat} {n : Int} (w : (Lit.int .i64 n).wf = true) : Tryz.prog.keyLits (d + 1) 3 [.int .i64 n] = some [.int .i64 n] := by
  unfold Program.keyLits; simp [Tryz.underlying3, w]
theorem keyM {a b : Int} (wa : (Lit.int .i64 a).wf = true) (wb : (Lit.int .i64 b).wf = true) : ∃ kl, keyOf Tryz.prog 104 (.agg #[.int .i64 a, .int .i64 b]) = some kl := by
  have hk : Tryz.prog.keyType 104 = true := by kernel_rfl
  have hc : Tryz.prog.cellsOf 104 = 2 := by kernel_rfl
  have hc3 : Tryz.prog.cellsOf 3 = 1 := by kernel_rfl
  have hs : Tryz.prog.types.size = 203 + 1 := by kernel_rfl
  unfold keyOf
  simp only [Tryz.underlying104]
  rw [if_pos (by simp [hk, Value.formed, Tryz.underlying104, hc]), hs]; unfold Program.keyLits
  simp only [Tryz.underlying104, Value.cells]
  rw [if_pos ⟨by rw [hc]; rfl, by kernel_rfl⟩]; have e0 := litsI (d := 203) wa; have e1 := litsI (d := 203) wb
  simp [hc3, e0, e1]


def entErr (x : Ent) : Int := if inI x.num 1 1000000 = false ∨ inI x.mach 1 2 = false ∨ inI x.day 0 40000 = false then 7 else if nameOk x.unit = false then 6 else 0
def entsErr (l : List Ent) : Int := ((l.find? fun x => entErr x != 0).map entErr).getD 0
def fileErr (l : List Ent) : Int := if 60 < l.length then 3 else entsErr l
def filesErr (fs : List (List Ent)) : Int := ((fs.find? fun f => fileErr f != 0).map fileErr).getD 0
instance (all : List Ent) : Decidable (NoConf all) := by unfold NoConf; infer_instance
/-- what Merge answers -/
def mergeErr (fs : List (List Ent)) : Int := if 8 < fs.length then 3 else if filesErr fs ≠ 0 then filesErr fs else if NoConf fs.flatten then 0 else 5
def mergeR (fs : List (List Ent)) : List Ent × Int := if mergeErr fs ≠ 0 then ([], mergeErr fs) else (mergeS fs.flatten, 0)
theorem findE_none {β : Type} {g : β → Int} {l : List β} (h : ∀ j (hj : j < l.length), g l[j] = 0) : ((l.find? fun x => g x != 0).map g).getD 0 = 0 := by
  rw [List.find?_eq_none.2 (fun x hx => by obtain ⟨j, hj, rfl⟩ := List.mem_iff_getElem.1 hx; simp [h j hj])]; rfl
theorem findE_some {β : Type} {g : β → Int} {l : List β} {i : Nat} (hi : i < l.length) (h : ∀ j (hj : j < l.length), j < i → g l[j] = 0) (he : g l[i] ≠ 0) : ((l.find? fun x => g x != 0).map g).getD 0 = g l[i] := by
  have : l.find? (fun x => g x != 0) = some l[i] := by
    rw [List.find?_eq_some_iff_getElem]; exact ⟨by simpa using he, i, hi, rfl, fun j hj => by simpa using h j (by omega) hj⟩
  rw [this]; rfl
theorem merge_bad {fs : List (List Ent)} {e : Int} (h : mergeErr fs = e) (he : e ≠ 0) : mergeR fs = ([], e) := by unfold mergeR; rw [h, if_pos he]
theorem merge_many {fs : List (List Ent)} (h : 8 < fs.length) : mergeErr fs = 3 := by unfold mergeErr; rw [if_pos h]
theorem merge_file {fs : List (List Ent)} (h8 : fs.length ≤ 8) {i : Nat} (hi : i < fs.length) (h : ∀ j (hj : j < fs.length), j < i → fileErr fs[j] = 0) {e : Int} (he : fileErr fs[i] = e) (hne : e ≠ 0) : mergeErr fs = e := by
  have := findE_some hi h (by rw [he]; exact hne); unfold mergeErr; rw [if_neg (by omega), if_pos (by unfold filesErr; rw [this, he]; exact hne)]; unfold filesErr; rw [this, he]
theorem merge_ent {fs : List (List Ent)} (h8 : fs.length ≤ 8) {i : Nat} (hi : i < fs.length) (h : ∀ j (hj : j < fs.length), j < i → fileErr fs[j] = 0) {l : List Ent} (hl : fs[i] = l) (h60 : l.length ≤ 60) {k : Nat} (hk : k < l.length) (h2 : ∀ j (hj : j < l.length), j < k → entErr l[j] = 0) {e : Int} (he : entErr l[k] = e) (hne : e ≠ 0) : mergeErr fs = e := by
  refine merge_file h8 hi h ?_ hne; rw [hl]; unfold fileErr; rw [if_neg (by omega)]; have := findE_some hk h2 (by rw [he]; exact hne); unfold entsErr; rw [this, he]
theorem file_ok {l : List Ent} (h60 : l.length ≤ 60) (h : ∀ j (hj : j < l.length), entErr l[j] = 0) : fileErr l = 0 := by unfold fileErr; rw [if_neg (by omega)]; exact findE_none h
theorem merge_conf {fs : List (List Ent)} (h8 : fs.length ≤ 8) (h : ∀ j (hj : j < fs.length), fileErr fs[j] = 0) (hc : ¬ NoConf fs.flatten) : mergeErr fs = 5 := by
  unfold mergeErr filesErr; rw [if_neg (by omega), findE_none h, if_neg (by decide), if_neg hc]
theorem merge_ok {fs : List (List Ent)} (h8 : fs.length ≤ 8) (h : ∀ j (hj : j < fs.length), fileErr fs[j] = 0) (hc : NoConf fs.flatten) : mergeR fs = (mergeS fs.flatten, 0) := by
  have : mergeErr fs = 0 := by unfold mergeErr filesErr; rw [if_neg (by omega), findE_none h, if_neg (by decide), if_pos hc]
  unfold mergeR; rw [this, if_neg (by decide)]
theorem entErr_zero {x : Ent} : entErr x = 0 ↔ (inI x.num 1 1000000 = true ∧ inI x.mach 1 2 = true ∧ inI x.day 0 40000 = true) ∧ nameOk x.unit = true := by
  unfold entErr
  cases inI x.num 1 1000000 <;> cases inI x.mach 1 2 <;> cases inI x.day 0 40000 <;> cases nameOk x.unit <;> simp
theorem entB_of {x : Ent} (h : entErr x = 0) : EntB x := by
  obtain ⟨⟨h1, h2, h3⟩, _⟩ := entErr_zero.1 h; exact ⟨(inI_iff _ _ _).1 h1, (inI_iff _ _ _).1 h2, (inI_iff _ _ _).1 h3⟩
theorem file_all {l : List Ent} (h : fileErr l = 0) : l.length ≤ 60 ∧ ∀ x ∈ l, entErr x = 0 := by
  unfold fileErr at h
  split at h
  · cases h
  · refine ⟨by omega, fun x hx => ?_⟩
    unfold entsErr at h
    cases hf : l.find? (fun x => entErr x != 0) with
    | none => have := List.find?_eq_none.1 hf x hx; simpa using this
    | some y => rw [hf] at h; have := List.find?_some hf; simp at h this; exact absurd h this
theorem ent_cases (x : Ent) : inI x.num 1 1000000 = false ∨ (inI x.num 1 1000000 = true ∧ inI x.mach 1 2 = false) ∨ (inI x.num 1 1000000 = true ∧ inI x.mach 1 2 = true ∧ inI x.day 0 40000 = false) ∨ (inI x.num 1 1000000 = true ∧ inI x.mach 1 2 = true ∧ inI x.day 0 40000 = true) := by
  cases inI x.num 1 1000000 <;> cases inI x.mach 1 2 <;> cases inI x.day 0 40000 <;> simp
/- what the map of the marks seen holds -/
abbrev entV (x : Ent) : Value := .agg #[.int .i64 x.num, .int .i64 x.mach, .int .i64 x.day, .string x.unit]
abbrev kvM (k : Int × Int) : Value := .agg #[.int .i64 k.1, .int .i64 k.2]
def lookE (l : List Ent) (k : Int × Int) : Option Ent := l.reverse.find? fun x => decide ((x.mach, x.num) = k)
theorem lookE_snoc (l : List Ent) (x : Ent) (k : Int × Int) : lookE (l ++ [x]) k = if k = (x.mach, x.num) then some x else lookE l k := by
  unfold lookE; rw [List.reverse_append, List.reverse_singleton, List.singleton_append, List.find?_cons]
  by_cases h : (x.mach, x.num) = k
  · rw [if_pos h.symm]; simp [h]
  · rw [if_neg (fun e => h e.symm)]; simp [h]
theorem lookE_none {l : List Ent} {k : Int × Int} (h : lookE l k = none) {x : Ent} (hx : x ∈ l) : ¬ (x.mach, x.num) = k := by
  have := List.find?_eq_none.1 h x (by simpa using hx)
  simpa using this
theorem lookE_some {l : List Ent} {k : Int × Int} {y : Ent} (h : lookE l k = some y) : y ∈ l ∧ (y.mach, y.num) = k :=
  ⟨by have := List.mem_of_find?_eq_some h; simpa using this, by have := List.find?_some h; simpa using this⟩
theorem noConf_snoc {l : List Ent} {x : Ent} (h : NoConf l) (hx : ∀ y ∈ l, (y.mach, y.num) = (x.mach, x.num) → y = x) : NoConf (l ++ [x]) := by
  intro a ha b hb h1 h2
  rcases List.mem_append.1 ha with a1 | a1 <;> rcases List.mem_append.1 hb with b1 | b1
  · exact h a a1 b b1 h1 h2
  · rw [List.mem_singleton] at b1; rw [b1]; rw [b1] at h1 h2; exact hx a a1 (by rw [h1, h2])
  · rw [List.mem_singleton] at a1; rw [a1]; rw [a1] at h1 h2; exact (hx b b1 (by rw [h1, h2])).symm
  · rw [List.mem_singleton] at a1 b1; rw [a1, b1]
theorem noConf_new {l : List Ent} {x : Ent} (h : NoConf l) (hn : lookE l (x.mach, x.num) = none) : NoConf (l ++ [x]) := noConf_snoc h fun y hy e => absurd e (lookE_none hn hy)
theorem noConf_was {l : List Ent} {x y : Ent} (h : NoConf l) (hn : lookE l (x.mach, x.num) = some y) (e : x = y) : NoConf (l ++ [x]) := by
  subst e
  refine noConf_snoc h fun z hz e => ?_
  obtain ⟨h1, _⟩ := lookE_some hn; have h3 := Prod.mk.inj e; exact h z hz x h1 h3.2 h3.1
theorem conf_at {all : List Ent} {i : Nat} {x y : Ent} (hi : i < all.length) (hx : all[i] = x) (hn : lookE (all.take i) (x.mach, x.num) = some y) (e : ¬ x = y) : ¬ NoConf all := by
  intro h; obtain ⟨h1, h2⟩ := lookE_some hn; have h3 := Prod.mk.inj h2; exact e (h x (by rw [← hx]; exact List.getElem_mem hi) y (List.mem_of_mem_take h1) h3.2.symm h3.1.symm)
theorem catE_flat (xs : List SlE) : catE xs xs.length = (xs.map SlE.l).flatten := by unfold catE; rw [List.take_length, List.flatMap_def]
end

section
open Go.RowKit

set_option maxRecDepth 100000
theorem untRow : (69 : TypeId) < Tryz.prog.types.size := of_decide_eq_true (by kernel_rfl)
theorem untWide : (match Tryz.prog.underlying 69 with | some (.array _ _) | some (.struct _) => true | _ => false) = true := by rw [Tryz.underlying69]
theorem untLaw : Go.WideMaps.KeyLaw Tryz.prog 69 := deep_law_laid laidOut (m := 2) (by omega) untRow (by kernel_rfl) untWide
abbrev kvU (u : Unt) : Value := .agg #[.int .i64 u.mach, .string u.unit]
theorem kvU_inj (x y : Unt) (h : kvU x = kvU y) : x = y := by cases x; cases y; simpa [kvU] using h
theorem litsS {d : Nat} {s : ByteArray} (h : s.size ≤ maxLen) : Tryz.prog.keyLits (d + 1) 9 [.string s] = some [.string s.data.toList] := by
  unfold Program.keyLits; simp [Tryz.underlying9, h]
theorem keyU {u : Unt} (wa : (Lit.int .i64 u.mach).wf = true) (hs : u.unit.size ≤ maxLen) : ∃ kl, keyOf Tryz.prog 69 (kvU u) = some kl := by
  have hk : Tryz.prog.keyType 69 = true := by kernel_rfl
  have hc : Tryz.prog.cellsOf 69 = 2 := by kernel_rfl
  have hc3 : Tryz.prog.cellsOf 3 = 1 := by kernel_rfl
  have hc9 : Tryz.prog.cellsOf 9 = 1 := by kernel_rfl
  have hz : Tryz.prog.types.size = 203 + 1 := by kernel_rfl
  unfold keyOf
  simp only [Tryz.underlying69]
  rw [if_pos (by simp [hk, Value.formed, Tryz.underlying69, hc]), hz]
  unfold Program.keyLits
  simp only [Tryz.underlying69, Value.cells]
  rw [if_pos ⟨by rw [hc]; rfl, by kernel_rfl⟩]
  have e0 := litsI (d := 203) wa
  have e1 := litsS (d := 203) hs
  simp [hc3, hc9, e0, e1]
end

section
open Go.RowKit


abbrev kvI (n : Int) : Value := .int .i64 n
abbrev nilS : Value := .slice none 0 0
def fltN (fs : List Flt) (n : Int) : List Flt := fs.filter fun f => decide (f.done = n)
theorem fltN_snoc (fs : List Flt) (f : Flt) (n : Int) : fltN (fs ++ [f]) n = if f.done = n then fltN fs n ++ [f] else fltN fs n := by
  unfold fltN; rw [List.filter_append]; by_cases h : f.done = n <;> simp [h]
theorem fltN_len (fs : List Flt) (n : Int) : (fltN fs n).length ≤ fs.length := List.length_filter_le _ _
abbrev tC (s : St4) (A : SA) (bm : Nat) (k : Int) : List Value := [.slice A.sa s.store.length A.sc, .slice A.ta s.tape.length A.tc, .int .i64 s.taken, .slice A.pa s.printed.length A.pc, .int .i64 s.time, .int .i64 s.pc, .int .i64 s.done, .int .i64 s.why, .map (some bm), .int .i64 k]
theorem KI : Maps.Keyed Tryz.prog 3 := Maps.int_keyed (q := .i64) Tryz.underlying3
theorem keyI {n : Int} (h : -9223372036854775808 ≤ n ∧ n ≤ 9223372036854775807) : keyOf Tryz.prog 3 (kvI n) = some (.int .i64 n) := Maps.keyOf_int_mk (q := .i64) Tryz.underlying3 (wf_of h.1 h.2)
theorem zeroFl (w : World) : (zeroValue 25).run Tryz.prog w = .ok nilS w := by kernel_rfl
theorem info_fl : (Tryz.prog.info? 55).map (fun i => (i.zero, i.size, i.bytes)) = some (some (.agg #[.int .i64 0, .int .i64 0, .int .i64 0]), 3, 24) := by kernel_rfl
theorem flt_one (x : Flt) : ∀ u ∈ Flt.cs x, u.oneCell' = true := by intro u hu; simp [Flt.cs] at hu; rcases hu with h | h | h <;> subst h <;> rfl
/-- the faults, by the order ahead of which they happen, in a map of the call's own -/
structure SMap (w : World) (b NB k : Nat) (fs : List Flt) (g : Int → Option Value) : Prop where
  mp : MapV Tryz.prog 3 kvI w b k g
  own : ∀ n, Own Flt.cs 3 55 NB w ((g n).getD nilS) (fltN fs n)
  ap : ∀ n m, n ≠ m → Apart ((g n).getD nilS) ((g m).getD nilS)
theorem SMap.start {w : World} {b NB : Nat} (h : MapV Tryz.prog 3 kvI w b 0 (fun _ => none)) : SMap w b NB 0 [] (fun _ => none) :=
  ⟨h, fun _ => Own.nil _ _ _ _ _, fun _ _ _ k hk => by simp [nilS, Value.ownBlock] at hk⟩
theorem SMap.at {w w' : World} {b NB k : Nat} {fs : List Flt} {g : Int → Option Value} (h : SMap w b NB k fs g) (hb : Below w.heap.size w w') : SMap w' b NB k fs g := ⟨h.mp.at hb, fun n => Own.at (h.own n) hb, h.ap⟩
theorem SMap.oldB {w w' : World} {b NB k : Nat} {fs : List Flt} {g : Int → Option Value} (h : SMap w b NB k fs g) {Bs : List Nat} (ho : OldB Bs w w') (hb : b ∉ Bs) (hn : ∀ n x, ((g n).getD nilS).ownBlock = some x → x ∉ Bs) : SMap w' b NB k fs g := ⟨h.mp.oldB ho hb, fun n => Own.oldB (h.own n) ho (hn n), h.ap⟩
/-- all but what lies at one key -/
structure SMX (w : World) (b NB k : Nat) (fs : List Flt) (g : Int → Option Value) (n0 : Int) : Prop where
  mp : MapV Tryz.prog 3 kvI w b k g
  own : ∀ n, n ≠ n0 → Own Flt.cs 3 55 NB w ((g n).getD nilS) (fltN fs n)
theorem SMX.alloc {w : World} {b NB k : Nat} {fs : List Flt} {g : Int → Option Value} {n0 : Int} (h : SMX w b NB k fs g n0) (o : Obj) : SMX (w.alloc o) b NB k fs g n0 := ⟨h.mp.at (below_alloc1 _ _), fun n hn => (h.own n hn).alloc o⟩
theorem SMX.grown {w w' : World} {b NB k : Nat} {fs : List Flt} {g : Int → Option Value} {n0 : Int} (h : SMX w b NB k fs g n0) (ap : ∀ n m, n ≠ m → Apart ((g n).getD nilS) ((g m).getD nilS)) {v : Value} (hv : v = (g n0).getD nilS) (hg : w.grownBy w' v.ownBlock) (hb : v.ownBlock ≠ some b) : SMX w' b NB k fs g n0 :=
  ⟨h.mp.grown hg hb, fun n hn => Own.grown (h.own n hn) hg (by rw [hv]; exact ap n n0 hn)⟩
theorem SMap.step {w : World} {b NB k NW : Nat} {fs : List Flt} {g : Int → Option Value} {y : Flt} {v' : Value} (ap : ∀ n m, n ≠ m → Apart ((g n).getD nilS) ((g m).getD nilS)) (hlt : ∀ n x, ((g n).getD nilS).ownBlock = some x → x < NW)
    (hm : MapV Tryz.prog 3 kvI w b (k + 1) (fun m => if m = y.done then some v' else g m)) (ho : ∀ n, n ≠ y.done → Own Flt.cs 3 55 NB w ((g n).getD nilS) (fltN fs n)) (hO : Own Flt.cs 3 55 NB w v' (fltN fs y.done ++ [y]))
    (hV : ∀ x, v'.ownBlock = some x → ((g y.done).getD nilS).ownBlock = some x ∨ NW ≤ x) : SMap w b NB (k + 1) (fs ++ [y]) (fun m => if m = y.done then some v' else g m) := by
  have key : ∀ n, n ≠ y.done → Apart ((g n).getD nilS) v' := fun n hn x hx hv => by
    rcases hV x hv with h | h
    · exact ap n y.done hn x hx h
    · have := hlt n x hx; omega
  refine ⟨hm, fun n => ?_, fun n m hnm => ?_⟩
  · rw [fltN_snoc]
    by_cases e : n = y.done
    · subst e; simpa using hO
    · simp only [if_neg e, if_neg (fun h => e h.symm : ¬ y.done = n)]; exact ho n e
  · by_cases e : n = y.done
    · have e2 : ¬ m = y.done := fun h => hnm (e.trans h.symm)
      simp only [if_pos e, if_neg e2, Option.getD_some]; exact (key m e2).symm
    · by_cases e2 : m = y.done
      · simp only [if_neg e, if_pos e2, Option.getD_some]; exact key n e
      · simp only [if_neg e, if_neg e2]; exact ap n m hnm
/-- a machine of twin at work: nothing of it lies in a block of av -/
def TW (av : List Nat) (w : World) (M : Nat) (s : St4) (fs : List Flt) (n : Int) : Prop :=
  ∃ A bm k g, Cells w M (tC s A bm n) ∧ RdSt w s A ∧ A.free s M ∧ MapV Tryz.prog 3 kvI w bm k g ∧ bm ≠ M ∧
    (∀ n, ∃ a c, (g n).getD nilS = .slice a (fltN fs n).length c ∧ RdFl w a (fltN fs n) ∧ (fltN fs n ≠ [] → ∀ b, a = some b → b.block ≠ M ∧ b.block ∉ av)) ∧ M ∉ av ∧ bm ∉ av ∧ ∀ k ∈ av, A.free s k

theorem XW46b {A : Prop} (e : A := by
 rintro LJ sJ wJ hL hd ⟨kB0, kB1, kLow, kSz, kMap, kZa, kZb, kZc, kM2, kV9, kSW, hs5, hs7, hs12, hs13, hs14, hv0, hv1, hv2, hv3, hv4, hv5, hv6, hv7, hv8, hv9, hv10, hv11, hv12, hv13, kP0, kW14, kW15, kEP0_W14, kEW14_W15⟩ K hK
 clear hd; rw [if_pos (by rfl)]; unfold opF; go_simp
 refine hK _ _ ⟨?_, ?_, ?_, ?_, ?_, ?_, ?_, ?_, ?_, ?_, ?_, ?_, ?_, ?_, ?_, ?_, ?_, ?_, ?_, ?_, ?_, ?_, ?_, ?_, ?_, ?_, ?_, ?_, ?_, ?_, ?_, ?_, ?_, ?_, ?_⟩ <;> first | assumption | (simp [upd, updS]; done) | (simp [upd, updS]; assumption)) : A := e
theorem tstart_any (s : St4) (A : SA) (af : Option Addr) (cf : Nat) (fs : List Flt) (w : World) (hR : RdSt w s A) (hF : RdFl w af fs) (hf10 : fs.length ≤ 10) (hfo : FOk fs) :
    Calls Tryz.prog 44 #[sV s A, .slice af fs.length cf] w (fun e w' => ∃ M, e = .returned (.pointer (some ⟨M, 0, none⟩)) ∧ w.heap.size ≤ M ∧ (∀ av, (∀ k ∈ av, k < w.heap.size ∧ A.free s k) → TW av w' M s fs 0) ∧ Below w.heap.size w w') := by
 have HR := hid hR; have HF := hid hF; have Hfo := hid hfo; clear hR hF hfo; obtain ⟨i0, hi0, hz0, hy0, hx0⟩ := info_parts info_fl
 refine enter_F Tryz.func44 rfl Tryz.ntmps44 (by simp) ?_
 intro s0 hs; have Z0 : s0 0 = .agg #[.slice A.sa s.store.length A.sc, .slice A.ta s.tape.length A.tc, .int .i64 s.taken, .slice A.pa s.printed.length A.pc, .int .i64 s.time, .int .i64 s.pc, .int .i64 s.done, .int .i64 s.why] := hs 0 (by simp); have Z1 : s0 1 = .slice af fs.length cf := hs 1 (by simp); clear hs; have HB := hid (OldB.refl [] w)
 refine nr ?_; intros; refine pa (fun w1 B2 hB Y2 hb2 => ?_); have gb2 := HB.out.gB hB; have eb2 := eB hB; clear hB; replace HB := bE HB hb2; clear hb2; have Q2 := Y2.1; refine pl ?_; clear Z0; refine lx [2] ?_; clear Z1; intro s3 Z1 Z2; refine lr ?_; intros; have cb2 := clx Y2; refine pl ?_; obtain ⟨bm, hbm⟩ : ∃ b, b = w1.heap.size := ⟨_, rfl⟩; have gbm := HB.out.gB hbm; have obm_b2 := oB Q2 hbm; refine listF_step rfl (fun K' hK => ?_); refine opF_makeMap (d := 9) (T := 92) (kt := 3) (kv := kvI) rfl (by decide) rfl (fun w4 hmp hb5 => hK _ _ ?_); clear hK K'; rw [← hbm] at hmp
 (try rw [← hbm])
 have lbm := hmp.lt; clear hbm; clear cb2; clear Q2; revert Y2 HB; refine uA hb5 ?_; clear hb5; intro Y2 Q2 HB; refine pl ?_; refine pa (fun w6 B11 hB Y11 hb7 => ?_); have gb11 := HB.out.gB hB; have ob2_b11 := oB Q2 hB; have eb11 := eB hB; clear hB; clear Q2; replace hmp := MapV.at hmp hb7; revert Y2 HB; refine uA hb7 ?_; clear hb7; intro Y2 Q2 HB; have Q11 := Y11.1; refine pl ?_; clear Z2; refine lx [5] ?_; clear Z1; intro s8 Z1 Z5; refine lr ?_; intros; refine P2 ?_; obtain ⟨NB, hNB⟩ : ∃ n, n = w6.heap.size := ⟨_, rfl⟩; have gNB := HB.out.gB hNB; have oMB : B11 < NB := oB Q11 hNB
 have obB : bm < NB := by have := hmp.lt; omega
 have hNBw : NB ≤ w6.heap.size := by omega
 clear hNB; refine pl ?_; clear Z1; refine lx [12,13,14] ?_; clear Z5; intro s9 Z5 Z12 Z13 Z14; refine ln ?_; intros
 clear Q2 Q11; have hc0_5 := hid Z5; have hc0_12 := hid Z12; have hc0_13 := hid Z13; refine loop_F (n := 36) (fun kJ sJ wJ => ∃ (i : Nat) (g : Int → Option Value), kJ = fs.length - i ∧ sJ 14 = .int .i64 (i : Int) ∧ sJ 5 = s9 5 ∧ sJ 12 = s9 12 ∧ sJ 13 = s9 13 ∧ OldB [] w wJ ∧ i ≤ fs.length ∧ Cells wJ B11 (tC s A bm 0) ∧ NB ≤ wJ.heap.size ∧ SMap wJ bm NB i (fs.take i) g) ⟨0, (fun _ => none), rfl, (by first | exact Z14 | (rw [Z14]; go_num) | (rw [Z14]; rfl)), rfl, rfl, rfl, HB.out, Nat.zero_le _, Y11, hNBw, SMap.start hmp⟩ ?_; clear Z14 Y2 Y11 hmp HB; rintro kJ s10 w11 ⟨i, g, rfl, Z14, e5, e12, e13, HB', hil, k11x, hNBx, hS⟩; rw [← e5] at Z5; clear e5; rw [← e12] at Z12; clear e12; rw [← e13] at Z13; clear e13; have HB := hid HB'; clear HB'; have Y11 := k11x; clear k11x; have Q11 := Y11.1
 refine nr ?_; intros; refine pl ?_; refine lx [15] ?_; clear Z5 Z12 Z13 Z14; intro s12 Z5 Z12 Z13 Z14 Z15; refine ln ?_; intros
 refine cond_E Z15 (by decide) ?_ ?_ <;> (clear Z15; intro h15 Z15)
 ·skip
  have hi : i < fs.length := by simpa using h15
  have hii : (i : Int) < fs.length := by omega
  obtain ⟨bf, of, hae, hbs, d0, d1, d2⟩ := RdFl.ne (Rd.oldB HF.out HB.out (by simp)) hi; subst hae; obtain ⟨y, hy⟩ : ∃ y, fs[i] = y := ⟨_, rfl⟩; rw [hy] at d0 d1 d2; have hyf := Hfo.out y (by rw [← hy]; exact List.getElem_mem hi); have hyb := hid (show -9223372036854775808 ≤ y.done ∧ y.done ≤ 9223372036854775807 by omega); have Hy := hid hy; have Hob := hid (show ∀ n x, ((g n).getD nilS).ownBlock = some x → x < w11.heap.size from fun n x hx => (World.ownsRow.lt (hS.own n) x hx).2); have hMs := hS.mp.lt; clear hy hyf
  refine nr ?_; intros; refine P2 ?_; refine pa (fun w13 B7 hB Y7 hb14 => ?_); have gb7 := HB.out.gB hB; have ob11_b7 := oB Q11 hB; have eb7 := eB hB; clear hB; clear Q11; replace hS := SMap.at hS hb14; revert HB; revert Y11; refine uA hb14 ?_; clear hb14; intro Y11 Q11 HB; have Q7 := Y7.1; have cb7 := clx Y7; have zb7 := Y7.2.2; refine pl ?_; refine sto Y7 ?_; clear Y7 cb7 zb7; intro w15 Y7 hb16; clear Q11 Q7; replace hS := SMap.oldB hS hb16 (by simp; omega) (fun n x hx => by have := Hob.out n x hx; simp; omega); revert Y11 HB; refine uO hb16 ?_; clear hb16; intro Y11 Q11 HB; have Q7 := Y7.1; clear Z15; refine lx [7] ?_; clear Z5 Z12 Z13 Z14; intro s17 Z5 Z12 Z13 Z14 Z7; refine ln ?_; intros
  clear Q11 Q7; obtain ⟨NW, hNW⟩ : ∃ n, n = w15.heap.size := ⟨_, rfl⟩; have hlw := HB.out.toBelow; have hb79 := Y7.1; obtain ⟨v0, hv0⟩ : ∃ v, v = (g y.done).getD nilS := ⟨_, rfl⟩; have hP0 := hS.own y.done; rw [← hv0] at hP0
  have hvb7 : v0.ownBlock ≠ some B7 := fun e => by rw [hv0] at e; have := Hob.out y.done _ e; omega
  have hvMx : v0.ownBlock ≠ some B11 := fun e => by have := (World.ownsRow.lt hP0 _ e).1; omega
  have hvbm : v0.ownBlock ≠ some bm := fun e => by have := (World.ownsRow.lt hP0 _ e).1; omega
  have hlt : ∀ n x, ((g n).getD nilS).ownBlock = some x → x < NW := fun n x hx => by rw [hNW]; exact (World.ownsRow.lt (hS.own n) x hx).2
  have hky := keyI (n := y.done) hyb.out; have Hv0 := hid hv0; have hsmx : SMX w15 bm NB i (fs.take i) g y.done := ⟨hS.mp, fun n _ => hS.own n⟩; have hap := hS.ap
  have hNWs : NW ≤ w15.heap.size := by omega
  have hyl : (fltN (fs.take i) y.done).length ≤ 10 := Nat.le_trans (fltN_len _ _) (by simp; omega); clear hv0; refine cut_any (fun sJ wJ => ∃ v', SMap wJ bm NB (i + 1) (fs.take i ++ [y]) (fun m => if m = y.done then some v' else g m) ∧ Cells wJ B11 (tC s A bm 0) ∧ sJ 5 = .pointer (some ⟨B11, 0, none⟩) ∧ sJ 12 = .slice (some ⟨bf, of, none⟩) fs.length cf ∧ sJ 13 = .int .i64 (fs.length : Int) ∧ sJ 14 = .int .i64 (i : Int) ∧ NB ≤ wJ.heap.size ∧ Below w.heap.size w wJ) ?_ ?_
  · refine regionI_F (fun (LJ : Nat → Bool) (sJ : Nat → Value) (wJ : World) => Cells wJ B11 [Value.slice A.sa s.store.length A.sc, Value.slice A.ta s.tape.length A.tc, .int .i64 s.taken, Value.slice A.pa s.printed.length A.pc, .int .i64 s.time, .int .i64 s.pc, .int .i64 s.done, .int .i64 s.why, Value.map (some bm), .int .i64 0] ∧ Cells wJ B7 [.int .i64 y.done, .int .i64 y.addr, .int .i64 y.mask] ∧ Below w.heap.size w wJ ∧ NB ≤ wJ.heap.size ∧ (LJ 16 = false → SMX wJ bm NB i (fs.take i) g y.done) ∧ (LJ 16 = true → LJ 14 = true) ∧ (LJ 16 = true → LJ 15 = true) ∧ (LJ 16 = true → LJ 12 = true) ∧ (LJ 16 = true → MapV Tryz.prog 3 kvI wJ bm (i + 1) (fun m => if m = y.done then some (sJ 33) else g m) ∧ ∀ n, n ≠ y.done → Own Flt.cs 3 55 NB wJ ((g n).getD nilS) (fltN (fs.take i) n)) ∧ (LJ 15 = true → ∀ x, (sJ 33).ownBlock = some x → v0.ownBlock = some x ∨ NW ≤ x) ∧ NW ≤ wJ.heap.size ∧ sJ 5 = .pointer (some ⟨B11, 0, none⟩) ∧ sJ 7 = .pointer (some ⟨B7, 0, none⟩) ∧ sJ 12 = .slice (some ⟨bf, of, none⟩) fs.length cf ∧ sJ 13 = .int .i64 (fs.length : Int) ∧ sJ 14 = .int .i64 (i : Int) ∧ (LJ 0 = true → sJ 18 = .pointer (some ⟨B11, 0, none⟩)) ∧ (LJ 1 = true → sJ 19 = .pointer (some ⟨B11, 0, none⟩)) ∧ (LJ 2 = true → sJ 20 = .pointer (some ⟨B11, 8, none⟩)) ∧ (LJ 3 = true → sJ 21 = Value.map (some bm)) ∧ (LJ 4 = true → sJ 22 = .pointer (some ⟨B7, 0, none⟩)) ∧ (LJ 5 = true → sJ 23 = .int .i64 y.done) ∧ (LJ 6 = true → sJ 24 = .pointer (some ⟨B11, 0, none⟩)) ∧ (LJ 7 = true → sJ 25 = .pointer (some ⟨B11, 0, none⟩)) ∧ (LJ 8 = true → sJ 26 = .pointer (some ⟨B11, 8, none⟩)) ∧ (LJ 9 = true → sJ 27 = Value.map (some bm)) ∧ (LJ 10 = true → sJ 28 = .pointer (some ⟨B7, 0, none⟩)) ∧ (LJ 11 = true → sJ 29 = .int .i64 y.done) ∧ (LJ 12 = true → sJ 30 = v0) ∧ (LJ 13 = true → sJ 31 = .agg #[.int .i64 y.done, .int .i64 y.addr, .int .i64 y.mask]) ∧ (LJ 15 = false → Own Flt.cs 3 55 NB wJ v0 (fltN (fs.take i) y.done)) ∧ (LJ 14 = true → Own Flt.cs 3 55 NB wJ (sJ 32) [y]) ∧ (LJ 15 = true → Own Flt.cs 3 55 NB wJ (sJ 33) (fltN (fs.take i) y.done ++ [y])) ∧ (LJ 15 = false → LJ 14 = true → Apart v0 (sJ 32)) ∧ (LJ 14 = true → LJ 15 = true → Apart (sJ 32) (sJ 33))) (by kernel_rfl) (by kernel_rfl) (by kernel_rfl) ?_ ?_ ⟨?_, ?_, ?_, ?_, ?_, ?_, ?_, ?_, ?_, ?_, ?_, ?_, ?_, ?_, ?_, ?_, ?_, trivial⟩
    · refine ⟨(by repeat (first | (with_reducible exact Y11) | (with_reducible refine Cells.drew ?_) | (with_reducible refine Cells.up ?_ _) | (with_reducible refine Cells.setFar ?_ (by omega)))), (by repeat (first | (with_reducible exact Y7) | (with_reducible refine Cells.drew ?_) | (with_reducible refine Cells.up ?_ _) | (with_reducible refine Cells.setFar ?_ (by omega)))), (by repeat (first | (with_reducible exact hlw) | (with_reducible refine bdrewN ?_ _) | (with_reducible refine Below.drew ?_) | (with_reducible refine Below.setCell ?_ (by first | omega | (simp; done) | (simp; omega)) _) | (with_reducible refine Below.alloc ?_ (by first | omega | (simp; done) | (simp; omega)) _))), (by first | omega | (simp; done) | (simp; omega)), ((fun _ => ⟨hsmx.mp, hsmx.own⟩)), ((fun h => by simp at h)), ((fun h => by simp at h)), ((fun h => by simp at h)), ((fun h => by simp at h)), ((fun h => by simp at h)), (hNWs), ?_, ?_, ?_, ?_, ?_, (by simp), (by simp), (by simp), (by simp), (by simp), (by simp), (by simp), (by simp), (by simp), (by simp), (by simp), (by simp), (by simp), (by simp), (fun _ => hP0), (by simp), (by simp), (by simp), (by simp)⟩
      · go_simp
      · go_simp
      · go_simp
      · go_simp
      · go_simp
    · rintro sJ wJ ⟨kB0, kB1, kLow, kSz, kMap, kZa, kZb, kZc, kM2, kV9, kSW, hs5, hs7, hs12, hs13, hs14, hv0, hv1, hv2, hv3, hv4, hv5, hv6, hv7, hv8, hv9, hv10, hv11, hv12, hv13, kP0, kW14, kW15, kEP0_W14, kEW14_W15⟩
      replace hv0 := hv0 (by simp); replace hv1 := hv1 (by simp); replace hv2 := hv2 (by simp); replace hv3 := hv3 (by simp); replace hv4 := hv4 (by simp); replace hv5 := hv5 (by simp); replace hv6 := hv6 (by simp); replace hv7 := hv7 (by simp); replace hv8 := hv8 (by simp); replace hv9 := hv9 (by simp); replace hv10 := hv10 (by simp); replace hv11 := hv11 (by simp); replace hv12 := hv12 (by simp); replace hv13 := hv13 (by simp); clear kP0; replace kW14 := kW14 (by simp); replace kW15 := kW15 (by simp); clear kEP0_W14; replace kEW14_W15 := kEW14_W15 (by simp) (by simp); obtain ⟨hm9, ho9⟩ := kM2 (by simp); have hv9 := kV9 (by simp); exact ⟨trv, _, rfl, sJ 33, SMap.step hap hlt hm9 ho9 kW15 (by rw [← Hv0.out]; exact hv9), kB0, hs5, hs12, hs13, hs14, kSz, kLow⟩
    · exact XW46b
    · rintro LJ sJ wJ hL hd ⟨kB0, kB1, kLow, kSz, kMap, kZa, kZb, kZc, kM2, kV9, kSW, hs5, hs7, hs12, hs13, hs14, hv0, hv1, hv2, hv3, hv4, hv5, hv6, hv7, hv8, hv9, hv10, hv11, hv12, hv13, kP0, kW14, kW15, kEP0_W14, kEW14_W15⟩ K hK
      have ga0 := hd ⟨0, .data⟩ (by simp) rfl; have gv0 := hv0 ga0; clear hd; rw [if_pos (by rfl)]; unfold opF; go_simp
      refine hK _ _ ⟨?_, ?_, ?_, ?_, ?_, ?_, ?_, ?_, ?_, ?_, ?_, ?_, ?_, ?_, ?_, ?_, ?_, ?_, ?_, ?_, ?_, ?_, ?_, ?_, ?_, ?_, ?_, ?_, ?_, ?_, ?_, ?_, ?_, ?_, ?_⟩ <;> first | assumption | (simp [upd, updS]; done) | (simp [upd, updS]; assumption)
    · rintro LJ sJ wJ hL hd ⟨kB0, kB1, kLow, kSz, kMap, kZa, kZb, kZc, kM2, kV9, kSW, hs5, hs7, hs12, hs13, hs14, hv0, hv1, hv2, hv3, hv4, hv5, hv6, hv7, hv8, hv9, hv10, hv11, hv12, hv13, kP0, kW14, kW15, kEP0_W14, kEW14_W15⟩ K hK
      have ga1 := hd ⟨1, .data⟩ (by simp) rfl; have gv1 := hv1 ga1; clear hd; rw [if_pos (by rfl)]; unfold opF; go_simp
      refine hK _ _ ⟨?_, ?_, ?_, ?_, ?_, ?_, ?_, ?_, ?_, ?_, ?_, ?_, ?_, ?_, ?_, ?_, ?_, ?_, ?_, ?_, ?_, ?_, ?_, ?_, ?_, ?_, ?_, ?_, ?_, ?_, ?_, ?_, ?_, ?_, ?_⟩ <;> first | assumption | (simp [upd, updS]; done) | (simp [upd, updS]; assumption)
    · rintro LJ sJ wJ hL hd ⟨kB0, kB1, kLow, kSz, kMap, kZa, kZb, kZc, kM2, kV9, kSW, hs5, hs7, hs12, hs13, hs14, hv0, hv1, hv2, hv3, hv4, hv5, hv6, hv7, hv8, hv9, hv10, hv11, hv12, hv13, kP0, kW14, kW15, kEP0_W14, kEW14_W15⟩ K hK
      have ga2 := hd ⟨2, .data⟩ (by simp) rfl; have gv2 := hv2 ga2; clear hd; rw [if_pos (by rfl)]; unfold opF; obtain ⟨cc0_0, cc0_1, cc0_2, cc0_3, cc0_4, cc0_5, cc0_6, cc0_7, cc0_8, cc0_9⟩ := cl10 kB0; have ccs0 := kB0.1; go_simp
      refine hK _ _ ⟨?_, ?_, ?_, ?_, ?_, ?_, ?_, ?_, ?_, ?_, ?_, ?_, ?_, ?_, ?_, ?_, ?_, ?_, ?_, ?_, ?_, ?_, ?_, ?_, ?_, ?_, ?_, ?_, ?_, ?_, ?_, ?_, ?_, ?_, ?_⟩ <;> first | assumption | (simp [upd, updS]; done) | (simp [upd, updS]; assumption)
    · exact XW46b
    · rintro LJ sJ wJ hL hd ⟨kB0, kB1, kLow, kSz, kMap, kZa, kZb, kZc, kM2, kV9, kSW, hs5, hs7, hs12, hs13, hs14, hv0, hv1, hv2, hv3, hv4, hv5, hv6, hv7, hv8, hv9, hv10, hv11, hv12, hv13, kP0, kW14, kW15, kEP0_W14, kEW14_W15⟩ K hK
      have ga4 := hd ⟨4, .data⟩ (by simp) rfl; have gv4 := hv4 ga4; clear hd; rw [if_pos (by rfl)]; unfold opF; obtain ⟨cc1_0, cc1_1, cc1_2⟩ := cl3 kB1; have ccs1 := kB1.1; go_simp
      refine hK _ _ ⟨?_, ?_, ?_, ?_, ?_, ?_, ?_, ?_, ?_, ?_, ?_, ?_, ?_, ?_, ?_, ?_, ?_, ?_, ?_, ?_, ?_, ?_, ?_, ?_, ?_, ?_, ?_, ?_, ?_, ?_, ?_, ?_, ?_, ?_, ?_⟩ <;> first | assumption | (simp [upd, updS]; done) | (simp [upd, updS]; assumption)
    · exact XW46b
    · rintro LJ sJ wJ hL hd ⟨kB0, kB1, kLow, kSz, kMap, kZa, kZb, kZc, kM2, kV9, kSW, hs5, hs7, hs12, hs13, hs14, hv0, hv1, hv2, hv3, hv4, hv5, hv6, hv7, hv8, hv9, hv10, hv11, hv12, hv13, kP0, kW14, kW15, kEP0_W14, kEW14_W15⟩ K hK
      have ga6 := hd ⟨6, .data⟩ (by simp) rfl; have gv6 := hv6 ga6; clear hd; rw [if_pos (by rfl)]; unfold opF; go_simp
      refine hK _ _ ⟨?_, ?_, ?_, ?_, ?_, ?_, ?_, ?_, ?_, ?_, ?_, ?_, ?_, ?_, ?_, ?_, ?_, ?_, ?_, ?_, ?_, ?_, ?_, ?_, ?_, ?_, ?_, ?_, ?_, ?_, ?_, ?_, ?_, ?_, ?_⟩ <;> first | assumption | (simp [upd, updS]; done) | (simp [upd, updS]; assumption)
    · rintro LJ sJ wJ hL hd ⟨kB0, kB1, kLow, kSz, kMap, kZa, kZb, kZc, kM2, kV9, kSW, hs5, hs7, hs12, hs13, hs14, hv0, hv1, hv2, hv3, hv4, hv5, hv6, hv7, hv8, hv9, hv10, hv11, hv12, hv13, kP0, kW14, kW15, kEP0_W14, kEW14_W15⟩ K hK
      have ga7 := hd ⟨7, .data⟩ (by simp) rfl; have gv7 := hv7 ga7; clear hd; rw [if_pos (by rfl)]; unfold opF; go_simp
      refine hK _ _ ⟨?_, ?_, ?_, ?_, ?_, ?_, ?_, ?_, ?_, ?_, ?_, ?_, ?_, ?_, ?_, ?_, ?_, ?_, ?_, ?_, ?_, ?_, ?_, ?_, ?_, ?_, ?_, ?_, ?_, ?_, ?_, ?_, ?_, ?_, ?_⟩ <;> first | assumption | (simp [upd, updS]; done) | (simp [upd, updS]; assumption)
    · rintro LJ sJ wJ hL hd ⟨kB0, kB1, kLow, kSz, kMap, kZa, kZb, kZc, kM2, kV9, kSW, hs5, hs7, hs12, hs13, hs14, hv0, hv1, hv2, hv3, hv4, hv5, hv6, hv7, hv8, hv9, hv10, hv11, hv12, hv13, kP0, kW14, kW15, kEP0_W14, kEW14_W15⟩ K hK
      have ga8 := hd ⟨8, .data⟩ (by simp) rfl; have gv8 := hv8 ga8; clear hd; rw [if_pos (by rfl)]; unfold opF; obtain ⟨cc0_0, cc0_1, cc0_2, cc0_3, cc0_4, cc0_5, cc0_6, cc0_7, cc0_8, cc0_9⟩ := cl10 kB0; have ccs0 := kB0.1; go_simp
      refine hK _ _ ⟨?_, ?_, ?_, ?_, ?_, ?_, ?_, ?_, ?_, ?_, ?_, ?_, ?_, ?_, ?_, ?_, ?_, ?_, ?_, ?_, ?_, ?_, ?_, ?_, ?_, ?_, ?_, ?_, ?_, ?_, ?_, ?_, ?_, ?_, ?_⟩ <;> first | assumption | (simp [upd, updS]; done) | (simp [upd, updS]; assumption)
    · exact XW46b
    · rintro LJ sJ wJ hL hd ⟨kB0, kB1, kLow, kSz, kMap, kZa, kZb, kZc, kM2, kV9, kSW, hs5, hs7, hs12, hs13, hs14, hv0, hv1, hv2, hv3, hv4, hv5, hv6, hv7, hv8, hv9, hv10, hv11, hv12, hv13, kP0, kW14, kW15, kEP0_W14, kEW14_W15⟩ K hK
      have ga10 := hd ⟨10, .data⟩ (by simp) rfl; have gv10 := hv10 ga10; clear hd; rw [if_pos (by rfl)]; unfold opF; obtain ⟨cc1_0, cc1_1, cc1_2⟩ := cl3 kB1; have ccs1 := kB1.1; go_simp
      refine hK _ _ ⟨?_, ?_, ?_, ?_, ?_, ?_, ?_, ?_, ?_, ?_, ?_, ?_, ?_, ?_, ?_, ?_, ?_, ?_, ?_, ?_, ?_, ?_, ?_, ?_, ?_, ?_, ?_, ?_, ?_, ?_, ?_, ?_, ?_, ?_, ?_⟩ <;> first | assumption | (simp [upd, updS]; done) | (simp [upd, updS]; assumption)
    · rintro LJ sJ wJ hL hd ⟨kB0, kB1, kLow, kSz, kMap, kZa, kZb, kZc, kM2, kV9, kSW, hs5, hs7, hs12, hs13, hs14, hv0, hv1, hv2, hv3, hv4, hv5, hv6, hv7, hv8, hv9, hv10, hv11, hv12, hv13, kP0, kW14, kW15, kEP0_W14, kEW14_W15⟩ K hK
      have ga9 := hd ⟨9, .data⟩ (by simp) rfl; have gv9 := hv9 ga9; have ga11 := hd ⟨11, .data⟩ (by simp) rfl; have gv11 := hv11 ga11; clear hd; rw [if_pos (by rfl)]; unfold opF
      have n16 : LJ 16 = false := by cases hh : LJ 16 with | false => rfl | true => exact absurd (kZc hh) (by rw [hL]; decide)
      have hlk := MapV.has (kMap n16).mp KI Tryz.underlying92 (zeroFl wJ) (x := y.done) hky false; rw [← Hv0.out] at hlk
      simp only [kvI, Bool.false_eq_true, if_false] at hlk
      go_simp
      refine hK _ _ ⟨?_, ?_, ?_, ?_, ?_, ?_, ?_, ((by simp [upd])), ?_, ?_, ?_, ?_, ?_, ?_, ?_, ?_, ?_, ?_, ?_, ?_, ?_, ?_, ?_, ?_, ?_, ?_, ?_, ?_, ?_, ?_, ?_, ?_, ?_, ?_, ?_⟩ <;> first | assumption | (simp [upd, updS]; done) | (simp [upd, updS]; assumption)
    · rintro LJ sJ wJ hL hd ⟨kB0, kB1, kLow, kSz, kMap, kZa, kZb, kZc, kM2, kV9, kSW, hs5, hs7, hs12, hs13, hs14, hv0, hv1, hv2, hv3, hv4, hv5, hv6, hv7, hv8, hv9, hv10, hv11, hv12, hv13, kP0, kW14, kW15, kEP0_W14, kEW14_W15⟩ K hK
      clear hd; rw [if_pos (by rfl)]; unfold opF; obtain ⟨cc1_0, cc1_1, cc1_2⟩ := cl3 kB1; have ccs1 := kB1.1; go_simp
      refine hK _ _ ⟨?_, ?_, ?_, ?_, ?_, ?_, ?_, ?_, ?_, ?_, ?_, ?_, ?_, ?_, ?_, ?_, ?_, ?_, ?_, ?_, ?_, ?_, ?_, ?_, ?_, ?_, ?_, ?_, ?_, ?_, ?_, ?_, ?_, ?_, ?_⟩ <;> first | assumption | (simp [upd, updS]; done) | (simp [upd, updS]; assumption)
    · rintro LJ sJ wJ hL hd ⟨kB0, kB1, kLow, kSz, kMap, kZa, kZb, kZc, kM2, kV9, kSW, hs5, hs7, hs12, hs13, hs14, hv0, hv1, hv2, hv3, hv4, hv5, hv6, hv7, hv8, hv9, hv10, hv11, hv12, hv13, kP0, kW14, kW15, kEP0_W14, kEW14_W15⟩ K hK
      have ga13 := hd ⟨13, .data⟩ (by simp) rfl; have gv13 := hv13 ga13; clear hd; rw [if_pos (by rfl)]; unfold opF; go_simp; exact hK _ _ ⟨(Cells.up (kB0) _), (Cells.up (kB1) _), (kLow.alloc (by omega) _), (by first | omega | (simp; done) | (simp; omega) | (have := hG.size; omega)), ((fun h => SMX.alloc (kMap (by simpa [upd] using h)) _)), ((by simp [upd])), ((by simpa [upd] using kZb)), ((by simpa [upd] using kZc)), ((fun h => absurd (kZa (by simpa [upd] using h)) (by rw [hL]; decide))), ((fun h => by simpa [upd, updS] using kV9 (by simpa [upd] using h))), ((by simp; omega)), (by simpa [upd, updS] using hs5), (by simpa [upd, updS] using hs7), (by simpa [upd, updS] using hs12), (by simpa [upd, updS] using hs13), (by simpa [upd, updS] using hs14), (by simpa [upd, updS] using hv0), (by simpa [upd, updS] using hv1), (by simpa [upd, updS] using hv2), (by simpa [upd, updS] using hv3), (by simpa [upd, updS] using hv4), (by simpa [upd, updS] using hv5), (by simpa [upd, updS] using hv6), (by simpa [upd, updS] using hv7), (by simpa [upd, updS] using hv8), (by simpa [upd, updS] using hv9), (by simpa [upd, updS] using hv10), (by simpa [upd, updS] using hv11), (by simpa [upd, updS] using hv12), (by simpa [upd, updS] using hv13), (fun h1 => by have h1 := (by simpa [upd] using h1 : LJ 15 = false); simpa [updS] using Own.alloc (kP0 h1) _), (fun _ => by first | exact Own.lit (by omega) (by unfold maxLen; simp) (by rfl) (fun _ => rfl) | (simp only [updS_some, ↓reduceIte]; exact Own.lit (by omega) (by unfold maxLen; simp) (by rfl) (fun _ => rfl)) | (simpa [updS] using Own.lit (by omega) (by unfold maxLen; simp) (by rfl) (fun _ => rfl))), (fun h1 => by have h1 := (by simpa [upd] using h1 : LJ 15 = true); simpa [updS] using Own.alloc (kW15 h1) _), (fun h1 h2 => by have h1 := (by simpa [upd] using h1 : LJ 15 = false); simpa [updS] using Apart.new (kP0 h1) _ _), (fun h1 h2 => by have h2 := (by simpa [upd] using h2 : LJ 15 = true); simpa [updS] using (Apart.new (kW15 h2) _ _).symm)⟩
    · rintro LJ sJ wJ hL hd ⟨kB0, kB1, kLow, kSz, kMap, kZa, kZb, kZc, kM2, kV9, kSW, hs5, hs7, hs12, hs13, hs14, hv0, hv1, hv2, hv3, hv4, hv5, hv6, hv7, hv8, hv9, hv10, hv11, hv12, hv13, kP0, kW14, kW15, kEP0_W14, kEW14_W15⟩ K hK
      have ga12 := hd ⟨12, .data⟩ (by simp) rfl; have gv12 := hv12 ga12; have ga14 := hd ⟨14, .data⟩ (by simp) rfl; clear hd; rw [if_pos (by rfl)]; have hcj : LJ 15 = false := hL; have kWx := kP0 hcj; have kWy := kW14 ga14; obtain ⟨ay, cy, hvy, hry, hny⟩ := Own.slice (f := Flt.cs) (m := 3) (fun _ => rfl) kWy; refine opF_app (d := 33) rfl (by decide) (.tmp 30) (.tmp 32) _ rfl 55 i0 _ 24 Tryz.underlying25 hi0 hz0 hy0 hx0 rfl (by decide) (fun _ => rfl) flt_one NB v0 (fltN (fs.take i) y.done) [y] ay cy (by go_simp) (by simpa using hvy) kWx hry (by simp; unfold maxLen; omega) (by simp; omega) (by omega) (fun v' w' hO hG hV => ?_); exact hK _ _ ⟨(Cells.grown (kB0) hG hvMx), (Cells.grown (kB1) hG hvb7), (low_grown kLow hG (by omega) (fun k hk => by have := (World.ownsRow.lt kWx k hk).1; omega)), (by first | omega | (simp; done) | (simp; omega) | (have := hG.size; omega)), ((fun h => SMX.grown (kMap (by simpa [upd] using h)) hap Hv0.out hG hvbm)), ((by simpa [upd] using kZa)), ((by simp [upd])), ((by simpa [upd] using kZc)), ((fun h => absurd (kZb (by simpa [upd] using h)) (by rw [hL]; decide))), ((fun _ x hx => by have hx' : v'.ownBlock = some x := (by simpa [updS] using hx); have hsz := kSW; rcases hV with e | e <;> rw [e] at hx'; exact .inl hx'; cases hx'; exact .inr hsz)), ((Nat.le_trans kSW hG.size)), (by simpa [upd, updS] using hs5), (by simpa [upd, updS] using hs7), (by simpa [upd, updS] using hs12), (by simpa [upd, updS] using hs13), (by simpa [upd, updS] using hs14), (by simpa [upd, updS] using hv0), (by simpa [upd, updS] using hv1), (by simpa [upd, updS] using hv2), (by simpa [upd, updS] using hv3), (by simpa [upd, updS] using hv4), (by simpa [upd, updS] using hv5), (by simpa [upd, updS] using hv6), (by simpa [upd, updS] using hv7), (by simpa [upd, updS] using hv8), (by simpa [upd, updS] using hv9), (by simpa [upd, updS] using hv10), (by simpa [upd, updS] using hv11), (by simpa [upd, updS] using hv12), (by simpa [upd, updS] using hv13), (fun h1 => by simp [upd] at h1), (fun h1 => by have h1 := (by simpa [upd] using h1 : LJ 14 = true); simpa [updS] using Own.grown (kW14 h1) hG (kEP0_W14 hcj h1).symm), (fun _ => by first | exact hO | (simp only [updS_some, ↓reduceIte]; exact hO) | (simpa [updS] using hO)), (fun h1 h2 => by simp [upd] at h1), (fun h1 h2 => by have h1 := (by simpa [upd] using h1 : LJ 14 = true); simpa [updS] using Apart.app (kW14 h1) (kEP0_W14 hcj h1).symm hV)⟩
    · rintro LJ sJ wJ hL hd ⟨kB0, kB1, kLow, kSz, kMap, kZa, kZb, kZc, kM2, kV9, kSW, hs5, hs7, hs12, hs13, hs14, hv0, hv1, hv2, hv3, hv4, hv5, hv6, hv7, hv8, hv9, hv10, hv11, hv12, hv13, kP0, kW14, kW15, kEP0_W14, kEW14_W15⟩ K hK
      have ga3 := hd ⟨3, .data⟩ (by simp) rfl; have gv3 := hv3 ga3; have ga5 := hd ⟨5, .data⟩ (by simp) rfl; have gv5 := hv5 ga5; have ga15 := hd ⟨15, .data⟩ (by simp) rfl; have ga15 := hd ⟨15, .chain⟩ (by simp) rfl; have ga3 := hd ⟨3, .phase⟩ (by simp) rfl; have gv3 := hv3 ga3; have ga5 := hd ⟨5, .phase⟩ (by simp) rfl; have gv5 := hv5 ga5; have ga11 := hd ⟨11, .phase⟩ (by simp) rfl; have gv11 := hv11 ga11
      have ga12 := hd ⟨12, .phase⟩ (by simp) rfl; have ga14 := hd ⟨14, .phase⟩ (by simp) rfl; have ga15 := hd ⟨15, .phase⟩ (by simp) rfl; clear hd; rw [if_pos (by rfl)]; have kMm := kMap hL; refine opF_put (T := 92) (kt := 3) (E := 25) (kv := kvI) (.tmp 21) (.tmp 23) (.tmp 33) rfl KI Tryz.underlying92 kMm.mp (by omega) (fun x y h => by simpa [kvI] using h) y.done (by go_simp) (by go_simp) hky (fun w' hm2 ho => ?_)
      have hm2 : MapV Tryz.prog 3 kvI w' bm (i + 1) (fun m => if m = y.done then some (sJ 33) else g m) := by simpa using hm2
      exact hK undef _ ⟨(Cells.oldB (kB0) ho (by simp; omega)), (Cells.oldB (kB1) ho (by simp; omega)), (kLow.trans (ho.lowN (by omega) (by simp; omega))), (Nat.le_trans kSz ho.size), ((fun h => by simp [upd] at h)), ((fun _ => by simpa [upd] using ga14)), ((fun _ => by simpa [upd] using ga15)), ((fun _ => by simpa [upd] using ga12)), ((fun _ => ⟨hm2, fun n hn => Own.oldB (kMm.own n hn) ho (fun x hx => by have := (World.ownsRow.lt (kMm.own n hn) x hx).1; simp; omega)⟩)), ((fun h => by simpa [upd, updS] using kV9 (by simpa [upd] using h))), ((Nat.le_trans kSW ho.size)), (by simpa [upd, updS] using hs5), (by simpa [upd, updS] using hs7), (by simpa [upd, updS] using hs12), (by simpa [upd, updS] using hs13), (by simpa [upd, updS] using hs14), (by simpa [upd, updS] using hv0), (by simpa [upd, updS] using hv1), (by simpa [upd, updS] using hv2), (by simpa [upd, updS] using hv3), (by simpa [upd, updS] using hv4), (by simpa [upd, updS] using hv5), (by simpa [upd, updS] using hv6), (by simpa [upd, updS] using hv7), (by simpa [upd, updS] using hv8), (by simpa [upd, updS] using hv9), (by simpa [upd, updS] using hv10), (by simpa [upd, updS] using hv11), (by simpa [upd, updS] using hv12), (by simpa [upd, updS] using hv13), (fun h1 => by have h1 := (by simpa [upd] using h1 : LJ 15 = false); simpa [updS] using Own.oldB (kP0 h1) ho (fun g hg => by have a1 := (World.ownsRow.lt (kP0 h1) g hg).1; simp; omega)), (fun h1 => by have h1 := (by simpa [upd] using h1 : LJ 14 = true); simpa [updS] using Own.oldB (kW14 h1) ho (fun g hg => by have a1 := (World.ownsRow.lt (kW14 h1) g hg).1; simp; omega)), (fun h1 => by have h1 := (by simpa [upd] using h1 : LJ 15 = true); simpa [updS] using Own.oldB (kW15 h1) ho (fun g hg => by have a1 := (World.ownsRow.lt (kW15 h1) g hg).1; simp; omega)), (fun h1 h2 => by have h1 := (by simpa [upd] using h1 : LJ 15 = false); have h2 := (by simpa [upd] using h2 : LJ 14 = true); simpa [updS] using kEP0_W14 h1 h2), (fun h1 h2 => by have h1 := (by simpa [upd] using h1 : LJ 14 = true); have h2 := (by simpa [upd] using h2 : LJ 15 = true); simpa [updS] using kEW14_W15 h1 h2)⟩
  rintro sM5 w18 ⟨v', hS9, k11z, e5, e12, e13, e14, hNz, hbM⟩; clear hS Y11 Y7 Z5 Z7 Z12 Z13 Z14; have Z5 := e5; have Z12 := e12; have Z13 := e13; have Z14 := e14; clear e5 e12 e13 e14; have HB := hid (OldB.nil (Bs := []) hbM); clear hbM hlw
  refine nr ?_; intros; refine P2 ?_; clear Z14; refine lx [14] ?_; clear Z5 Z12 Z13; intro s20 Z5 Z12 Z13 Z14; refine ln ?_; intros
  refine ⟨_, _, rfl, ?_, i + 1, (fun m => if m = y.done then some v' else g m), rfl, (rL Z14), sh, sh, sh, HB.out, by omega, k11z, hNz, (by rw [List.take_succ_eq_append_getElem hi, Hy.out]; exact hS9)⟩
  omega
 ·skip
  have hi : i = fs.length := by have h := h15; simp at h; omega
  refine zx ?_; intros
  clear hc0_5 hc0_12 hc0_13; refine region_F ?_; refine P2 ?_; clear Z5 Z12 Z13 Z14 Z15; refine lx [4] ?_; intro s21 Z4; refine ln ?_; intros
  refine ret_F _ (res_t Tryz.results44 ((getD_F (by decide)).trans Z4)) ?_; rw [hi, List.take_length] at hS; have hMl := Y11.1; refine ⟨B11, rfl, gb11, fun av hav => ⟨A, bm, fs.length, g, Y11, HR.out.old HB.out, HR.out.freeB gb11, hi ▸ hS.mp, by omega, fun n => ?_, fun h => by have := (hav _ h).1; omega, fun h => by have := (hav _ h).1; omega, fun k hk => (hav k hk).2⟩, HB.out.toBelow⟩; obtain ⟨a, c, hv, hr, hn⟩ := Own.slice (f := Flt.cs) (m := 3) (fun _ => rfl) (hS.own n); exact ⟨a, c, hv, hr, fun _ b hb => ⟨by have := hn b hb; omega, fun h => by have := (hav _ h).1; have := hn b hb; omega⟩⟩
end

section
open Go.RowKit

theorem days_snoc (l : List Ent) (x : Ent) (u : Unt) : daysOf (l ++ [x]) u = if x.u = u then daysOf l u ++ [x.day] else daysOf l u := by
  rw [days_append]
  by_cases h : x.u = u
  · rw [if_pos h, days_cons_yes h]; rfl
  · rw [if_neg h, days_cons_no h]; simp [daysOf]
structure UOwn (w : World) (NB : Nat) (l : List Ent) (g : Unt → Option Value) : Prop where
  own : ∀ u, Own int1 1 3 NB w ((g u).getD nilS) (daysOf l u)
  ap : ∀ u v, u ≠ v → Apart ((g u).getD nilS) ((g v).getD nilS)
theorem UOwn.start (w : World) (NB : Nat) : UOwn w NB [] (fun _ => none) := ⟨fun _ => Own.nil _ _ _ _ _, fun _ _ _ k hk => by simp [nilS, Value.ownBlock] at hk⟩
theorem UOwn.at {w w' : World} {NB : Nat} {l : List Ent} {g : Unt → Option Value} (h : UOwn w NB l g) (hb : Below w.heap.size w w') : UOwn w' NB l g := ⟨fun u => Own.at (h.own u) hb, h.ap⟩
theorem UOwn.lt {w : World} {NB : Nat} {l : List Ent} {g : Unt → Option Value} (h : UOwn w NB l g) : ∀ u x, ((g u).getD nilS).ownBlock = some x → NB ≤ x ∧ x < w.heap.size := fun u x hx => World.ownsRow.lt (h.own u) x hx
theorem UOwn.oldB {w w' : World} {NB : Nat} {l : List Ent} {g : Unt → Option Value} (h : UOwn w NB l g) {Bs : List Nat} (ho : OldB Bs w w') (hn : ∀ u x, ((g u).getD nilS).ownBlock = some x → x ∉ Bs) : UOwn w' NB l g := ⟨fun u => Own.oldB (h.own u) ho (hn u), h.ap⟩
theorem UOwn.put {w w' : World} {NB : Nat} {l : List Ent} {g : Unt → Option Value} {x : Ent} {v v' : Value} (h : UOwn w NB l g) (hv : v = (g x.u).getD nilS) (hG : w.grownBy w' v.ownBlock) (hO : Own int1 1 3 NB w' v' (daysOf l x.u ++ [x.day])) (hV : v'.ownBlock = v.ownBlock ∨ v'.ownBlock = some w.heap.size) :
    UOwn w' NB (l ++ [x]) (fun y => if y = x.u then some v' else g y) := by
  have key : ∀ u, u ≠ x.u → Apart ((g u).getD nilS) v' := fun u hu k hk hk2 => by
    rcases hV with e | e
    · rw [e, hv] at hk2; exact h.ap u x.u hu k hk hk2
    · rw [e] at hk2; have := (h.lt u k hk).2; cases hk2; omega
  refine ⟨fun u => ?_, fun u u2 hne => ?_⟩
  · rw [days_snoc]
    by_cases e : u = x.u
    · simp only [if_pos e, if_pos e.symm, Option.getD_some]; rw [e]; exact hO
    · simp only [if_neg e, if_neg (fun h => e h.symm : ¬ x.u = u)]
      exact Own.grown (h.own u) hG (by rw [hv]; exact h.ap u x.u e)
  · by_cases e : u = x.u
    · have e2 : ¬ u2 = x.u := fun h => hne (e.trans h.symm)
      simp only [if_pos e, if_neg e2, Option.getD_some]; exact (key u2 e2).symm
    · by_cases e2 : u2 = x.u
      · simp only [if_neg e, if_pos e2, Option.getD_some]; exact key u e
      · simp only [if_neg e, if_neg e2]; exact h.ap u u2 hne
end


end Go.Proofs.YtleknidlgmmgbaaGreat
