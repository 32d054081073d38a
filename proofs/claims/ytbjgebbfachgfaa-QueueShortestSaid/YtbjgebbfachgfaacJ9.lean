/- Texts of this proof, joined: Ex W15 W16 All. -/
import Derived.Test.YtbjgebbfachgfaacW17
import Derived.Test.YtbjgebbfachgfaacPure8
import Derived.Test.YtbjgebbfachgfaacJ2
import Derived.Test.YtbjgebbfachgfaacJ3
import Derived.Test.YtbjgebbfachgfaacW38
import Derived.Test.YtbjgebbfachgfaacW32
import Derived.Test.YtbjgebbfachgfaacJ1
set_option linter.unusedVariables false
set_option linter.unusedSimpArgs false
set_option linter.unusedSectionVars false
set_option linter.all false
/- The example's numbers. -/
namespace Go.Proofs.Ytbjgebbfachgfaa

def exSpells : List Spell := [⟨1, 0, 0, 13⟩, ⟨3, 2, 13, 19⟩, ⟨2, 1, 19, 26⟩, ⟨1, 0, 26, 39⟩, ⟨2, 0, 39, 46⟩]
def exEnd : List St := [⟨25, 46, 165, 1, 46⟩, ⟨5, 26, 35, 1, 26⟩, ⟨4, 19, 30, 2, 19⟩]
def exMid : List St := [⟨10, 13, 65, 0, -1⟩, ⟨0, 1, 0, 0, -1⟩, ⟨0, 2, 0, 0, -1⟩]
theorem ex_err : exWork.err = 0 := by decide +kernel
theorem ex_day : day exWork 100 = (exSpells, ⟨46, exEnd⟩) := by decide +kernel
theorem ex_dayErr : dayErr exWork 100 = 0 := by decide +kernel
theorem ex_mid : (day exWork 13).2 = ⟨13, exMid⟩ := by decide +kernel
theorem ex_bill : billRes exWork 100 = ([165, 35, 30], ⟨46, 0, 0, 0⟩, 0) := by decide +kernel
theorem ex_next : nextRes exWork ⟨13, exMid⟩ = (⟨3, 2, 13, 19⟩, ⟨19, [⟨10, 13, 65, 0, -1⟩, ⟨0, 1, 0, 0, -1⟩, ⟨4, 19, 30, 2, 19⟩]⟩, 0) := by decide +kernel
theorem ex_over : nextRes exWork ⟨46, exEnd⟩ = (Spell.zero, Qu.zero, 9) := by decide +kernel
theorem ex_quote : quote exRules ⟨⟨#[97]⟩, 0, 25, 25⟩ = 165 ∧ quoteErr exRules ⟨⟨#[97]⟩, 0, 25, 25⟩ = 0 := by decide +kernel
theorem ex_longest : longest exRules 3 = 69 ∧ longErr exRules 3 = 0 := by decide +kernel

end Go.Proofs.Ytbjgebbfachgfaa
/- Longest and Quote: the reference's and the program's. -/
namespace Go.Proofs.Ytbjgebbfachgfaa
open Go.RowKit

set_option maxHeartbeats 1000000 in
theorem rlongest_any (r : Rules) (n : Int) (w : World) :
    Calls Try.prog 33 #[.agg #[.int .i64 r.slice, .int .i64 r.load, .int .i64 r.dump, .int .i64 r.patience, .int .i64 r.rate], .int .i64 n] w fun e w' => e = .returned (.tuple #[.int .i64 (longest r n), .int .i64 (longErr r n)]) ∧ Below w.heap.size w w' := by
  rcases Bool.eq_false_or_eq_true r.ok with hr | hr
  · have hr' : Rules.ok ⟨r.slice, r.load, r.dump, r.patience, r.rate⟩ = true := hr
    rcases Bool.eq_false_or_eq_true (inb n 1 12) with hn | hn
    · have Hl := hid (show longest r n = r.patience + n * r.turn by simp [longest, hr, hn])
      have He := hid (show longErr r n = 0 by simp [longErr, hr, hn])
      obtain ⟨n1, n2⟩ := (inb_iff _ _ _).1 hn
      obtain ⟨⟨b1, b2⟩, ⟨b3, b4⟩, ⟨b5, b6⟩, ⟨b7, b8⟩, b9, b10⟩ := (Rules.ok_iff _).1 hr
      have ht1 : 1 ≤ Rules.turn ⟨r.slice, r.load, r.dump, r.patience, r.rate⟩ := by simp [Rules.turn]; omega
      have ht2 : Rules.turn ⟨r.slice, r.load, r.dump, r.patience, r.rate⟩ ≤ 660 := by simp [Rules.turn]; omega
      have hm1 : 0 ≤ n * Rules.turn ⟨r.slice, r.load, r.dump, r.patience, r.rate⟩ := Int.mul_nonneg (by omega) (by omega)
      have hm2 : n * Rules.turn ⟨r.slice, r.load, r.dump, r.patience, r.rate⟩ ≤ 12 * 660 := Int.mul_le_mul n2 ht2 (by omega) (by omega)
      have hcall := fun w => rturn_any r.slice r.load r.dump r.patience r.rate w hr'
      change ∀ w, Calls _ _ _ _ (fun e w' => e = .returned (.int .i64 r.turn) ∧ _) at hcall
      change 1 ≤ r.turn at ht1
      change r.turn ≤ 660 at ht2
      change 0 ≤ n * r.turn at hm1
      change n * r.turn ≤ 12 * 660 at hm2
      have Hcall := hid hcall; clear hcall
      have s1 : IntKind.i64.wrap (n * r.turn) = n * r.turn := IntWalk.i64_in _ (by omega)
      have s2 : IntKind.i64.wrap (r.patience + n * r.turn) = r.patience + n * r.turn := IntWalk.i64_in _ (by omega)
      have Hr := hid hr; clear hr
      go_enter Try.func33, Try.ntmps33
      go_wp2_with (first | (go_at_call 42; refine (rrules_any _ _ _ _ _ _).mono ?_; rintro e w' ⟨rfl, rfl⟩) | (go_at_call 49; refine (refin_any _ _ _ _).mono ?_; rintro e w' ⟨rfl, rfl⟩))
      go_region_held3 (fun w' => w'.cell? ⟨w.heap.size, 0, none⟩ = some (.int .i64 r.slice) ∧ w'.cell? ⟨w.heap.size, 1, none⟩ = some (.int .i64 r.load) ∧ w'.cell? ⟨w.heap.size, 2, none⟩ = some (.int .i64 r.dump) ∧ w'.cell? ⟨w.heap.size, 3, none⟩ = some (.int .i64 r.patience) ∧ w'.cell? ⟨w.heap.size, 4, none⟩ = some (.int .i64 r.rate))
        (first | (go_simp; done))
        (first | (go_at_call 60; refine (Hcall.out _).mono ?_; rintro e w' ⟨rfl, rfl⟩))
      go_wp2_with fail
      go_ret2
      refine ⟨by rw [Hl.out, He.out]; rfl, (by repeat (first | (with_reducible exact Below.refl _ _) | (with_reducible refine bdrewN ?_ _) | (with_reducible refine Below.drew ?_) | (with_reducible refine Below.setCell ?_ (by first | omega | (simp; done) | (simp; omega)) _) | (with_reducible refine Below.alloc ?_ (by first | omega | (simp; done) | (simp; omega)) _)))⟩
    · have Hl := hid (show longest r n = 0 by simp [longest, hn])
      have He := hid (show longErr r n = 7 by simp [longErr, hn])
      clear hr
      go_enter Try.func33, Try.ntmps33
      go_wp2_with (first | (go_at_call 42; refine (rrules_any _ _ _ _ _ _).mono ?_; rintro e w' ⟨rfl, rfl⟩) | (go_at_call 49; refine (refin_any _ _ _ _).mono ?_; rintro e w' ⟨rfl, rfl⟩))
      go_ret2
      refine ⟨by rw [Hl.out, He.out]; rfl, (by repeat (first | (with_reducible exact Below.refl _ _) | (with_reducible refine bdrewN ?_ _) | (with_reducible refine Below.drew ?_) | (with_reducible refine Below.setCell ?_ (by first | omega | (simp; done) | (simp; omega)) _) | (with_reducible refine Below.alloc ?_ (by first | omega | (simp; done) | (simp; omega)) _)))⟩
  · have hr' : Rules.ok ⟨r.slice, r.load, r.dump, r.patience, r.rate⟩ = false := hr
    have Hl := hid (show longest r n = 0 by simp [longest, hr])
    have He := hid (show longErr r n = 7 by simp [longErr, hr])
    clear hr
    go_enter Try.func33, Try.ntmps33
    go_wp2_with (first | (go_at_call 42; refine (rrules_any _ _ _ _ _ _).mono ?_; rintro e w' ⟨rfl, rfl⟩) | (go_at_call 49; refine (refin_any _ _ _ _).mono ?_; rintro e w' ⟨rfl, rfl⟩))
    go_ret2
    refine ⟨by rw [Hl.out, He.out]; rfl, (by repeat (first | (with_reducible exact Below.refl _ _) | (with_reducible refine bdrewN ?_ _) | (with_reducible refine Below.drew ?_) | (with_reducible refine Below.setCell ?_ (by first | omega | (simp; done) | (simp; omega)) _) | (with_reducible refine Below.alloc ?_ (by first | omega | (simp; done) | (simp; omega)) _)))⟩

set_option maxHeartbeats 1000000 in
theorem qlongest_any (r : Rules) (n : Int) (w : World) :
    Calls Try.prog 32 #[.agg #[.int .i64 r.slice, .int .i64 r.load, .int .i64 r.dump, .int .i64 r.patience, .int .i64 r.rate], .int .i64 n] w fun e w' => e = .returned (.tuple #[.int .i64 (longest r n), .int .i64 (longErr r n)]) ∧ Below w.heap.size w w' := by
  rcases Bool.eq_false_or_eq_true r.ok with hr | hr
  · have hr' : Rules.ok ⟨r.slice, r.load, r.dump, r.patience, r.rate⟩ = true := hr
    rcases Bool.eq_false_or_eq_true (inb n 1 12) with hn | hn
    · have Hl := hid (show longest r n = r.patience + n * (r.load + r.slice + r.dump) by simp [longest, hr, hn, Rules.turn])
      have He := hid (show longErr r n = 0 by simp [longErr, hr, hn])
      obtain ⟨n1, n2⟩ := (inb_iff _ _ _).1 hn
      obtain ⟨⟨b1, b2⟩, ⟨b3, b4⟩, ⟨b5, b6⟩, ⟨b7, b8⟩, b9, b10⟩ := (Rules.ok_iff _).1 hr
      have hm1 : 0 ≤ n * (r.load + r.slice + r.dump) := Int.mul_nonneg (by omega) (by omega)
      have hm2 : n * (r.load + r.slice + r.dump) ≤ 12 * 660 := Int.mul_le_mul n2 (by omega) (by omega) (by omega)
      clear hr
      go_enter Try.func32, Try.ntmps32
      go_wp2_with (first | (go_at_call 43; refine (qodd_any _ _ _ _ _ _).mono ?_; rintro e w' ⟨rfl, rfl⟩) | (go_at_call 46; refine (qout_any _ _ _ _).mono ?_; rintro e w' ⟨rfl, rfl⟩))
      go_ret2
      refine ⟨by rw [Hl.out, He.out]; rfl, (by repeat (first | (with_reducible exact Below.refl _ _) | (with_reducible refine bdrewN ?_ _) | (with_reducible refine Below.drew ?_) | (with_reducible refine Below.setCell ?_ (by first | omega | (simp; done) | (simp; omega)) _) | (with_reducible refine Below.alloc ?_ (by first | omega | (simp; done) | (simp; omega)) _)))⟩
    · have Hl := hid (show longest r n = 0 by simp [longest, hn])
      have He := hid (show longErr r n = 7 by simp [longErr, hn])
      clear hr
      go_enter Try.func32, Try.ntmps32
      go_wp2_with (first | (go_at_call 43; refine (qodd_any _ _ _ _ _ _).mono ?_; rintro e w' ⟨rfl, rfl⟩) | (go_at_call 46; refine (qout_any _ _ _ _).mono ?_; rintro e w' ⟨rfl, rfl⟩))
      go_ret2
      refine ⟨by rw [Hl.out, He.out]; rfl, (by repeat (first | (with_reducible exact Below.refl _ _) | (with_reducible refine bdrewN ?_ _) | (with_reducible refine Below.drew ?_) | (with_reducible refine Below.setCell ?_ (by first | omega | (simp; done) | (simp; omega)) _) | (with_reducible refine Below.alloc ?_ (by first | omega | (simp; done) | (simp; omega)) _)))⟩
  · have hr' : Rules.ok ⟨r.slice, r.load, r.dump, r.patience, r.rate⟩ = false := hr
    have Hl := hid (show longest r n = 0 by simp [longest, hr])
    have He := hid (show longErr r n = 7 by simp [longErr, hr])
    clear hr
    go_enter Try.func32, Try.ntmps32
    go_wp2_with (first | (go_at_call 43; refine (qodd_any _ _ _ _ _ _).mono ?_; rintro e w' ⟨rfl, rfl⟩) | (go_at_call 46; refine (qout_any _ _ _ _).mono ?_; rintro e w' ⟨rfl, rfl⟩))
    go_ret2
    refine ⟨by rw [Hl.out, He.out]; rfl, (by repeat (first | (with_reducible exact Below.refl _ _) | (with_reducible refine bdrewN ?_ _) | (with_reducible refine Below.drew ?_) | (with_reducible refine Below.setCell ?_ (by first | omega | (simp; done) | (simp; omega)) _) | (with_reducible refine Below.alloc ?_ (by first | omega | (simp; done) | (simp; omega)) _)))⟩

theorem quote_bd {r : Rules} {j : Job} (hr : r.ok = true) (hj : j.numOk = true) : 0 ≤ (j.fin - 1) / r.slice ∧ (j.fin - 1) / r.slice ≤ 1999 := by
  have h1 := (Rules.ok_iff _).1 hr
  have h2 := Job.fin_bd hj
  refine ⟨Int.ediv_nonneg (by omega) (by omega), ?_⟩
  exact Int.le_trans (Int.ediv_le_self _ (by omega)) (by omega)

theorem qend_jb (j : Job) (w : World) : Calls Try.prog 52 #[.agg #[.string j.name, .int .i64 j.arrive, .int .i64 j.claim, .int .i64 j.needs]] w fun e w' => e = .returned (.int .i64 j.fin) ∧ w.alloc (.cells #[.string j.name, .int .i64 j.arrive, .int .i64 j.claim, .int .i64 j.needs] 56) = w' := qend_any _ _ _ _ w

set_option maxRecDepth 100000 in
set_option maxHeartbeats 2000000 in
theorem qquote_any (r : Rules) (j : Job) (w : World) :
    Calls Try.prog 30 #[.agg #[.int .i64 r.slice, .int .i64 r.load, .int .i64 r.dump, .int .i64 r.patience, .int .i64 r.rate], .agg #[.string j.name, .int .i64 j.arrive, .int .i64 j.claim, .int .i64 j.needs]] w fun e w' => e = .returned (.tuple #[.int .i64 (quote r j), .int .i64 (quoteErr r j)]) ∧ Below w.heap.size w w' := by
  rcases Bool.eq_false_or_eq_true r.ok with hr | hr
  · have hr' : Rules.ok ⟨r.slice, r.load, r.dump, r.patience, r.rate⟩ = true := hr
    rcases Bool.eq_false_or_eq_true j.numOk with hn | hn
    · have hn' : Job.numOk ⟨j.name, j.arrive, j.claim, j.needs⟩ = true := hn
      have Hl := hid (show quote r j = (j.fin + ((j.fin - 1) / r.slice + 1) * r.load + (j.fin - 1) / r.slice * r.dump) * r.rate by simp [quote, hr, hn])
      have He := hid (show quoteErr r j = 0 by simp [quoteErr, hr, hn])
      obtain ⟨⟨b1, b2⟩, ⟨b3, b4⟩, ⟨b5, b6⟩, ⟨b7, b8⟩, b9, b10⟩ := (Rules.ok_iff _).1 hr
      obtain ⟨f1, f2, f3, f4⟩ := Job.fin_bd hn
      obtain ⟨q1, q2⟩ := quote_bd hr hn
      have hq : IntKind.i64.wrap ((j.fin - 1).tdiv r.slice) = (j.fin - 1) / r.slice := IntWalk.i64_quo _ _ ⟨by omega, by omega, by omega⟩
      have hz : (r.slice == 0) = false := by simp; omega
      have hz2 : ¬ r.slice = 0 := by omega
      have h1 : IntKind.i64.wrap (j.fin - 1) = j.fin - 1 := IntWalk.i64_in _ (by omega)
      generalize hD : (j.fin - 1) / r.slice = D at *
      have HD := hid hD; clear hD
      have m1 : 0 ≤ (D + 1) * r.load := Int.mul_nonneg (by omega) (by omega)
      have m2 : (D + 1) * r.load ≤ 2000 * 30 := Int.mul_le_mul (by omega) (by omega) (by omega) (by omega)
      have m3 : 0 ≤ D * r.dump := Int.mul_nonneg (by omega) (by omega)
      have m4 : D * r.dump ≤ 2000 * 30 := Int.mul_le_mul (by omega) (by omega) (by omega) (by omega)
      have m5 : 0 ≤ (j.fin + (D + 1) * r.load + D * r.dump) * r.rate := Int.mul_nonneg (by omega) (by omega)
      have m6 : (j.fin + (D + 1) * r.load + D * r.dump) * r.rate ≤ 122000 * 1000 := Int.mul_le_mul (by omega) (by omega) (by omega) (by omega)
      have s1 : IntKind.i64.wrap (D + 1) = D + 1 := IntWalk.i64_in _ (by omega)
      have s2 : IntKind.i64.wrap ((D + 1) * r.load) = (D + 1) * r.load := IntWalk.i64_in _ (by omega)
      have s3 : IntKind.i64.wrap (j.fin + (D + 1) * r.load) = j.fin + (D + 1) * r.load := IntWalk.i64_in _ (by omega)
      have s4 : IntKind.i64.wrap (D * r.dump) = D * r.dump := IntWalk.i64_in _ (by omega)
      have s5 : IntKind.i64.wrap (j.fin + (D + 1) * r.load + D * r.dump) = j.fin + (D + 1) * r.load + D * r.dump := IntWalk.i64_in _ (by omega)
      have s6 : IntKind.i64.wrap ((j.fin + (D + 1) * r.load + D * r.dump) * r.rate) = (j.fin + (D + 1) * r.load + D * r.dump) * r.rate := IntWalk.i64_in _ (by omega)
      clear hr hn m1 m2 m3 m4 m5 m6
      go_enter Try.func30, Try.ntmps30
      go_wp2_with (first | (go_at_call 43; refine (qodd_any _ _ _ _ _ _).mono ?_; rintro e w' ⟨rfl, rfl⟩) | (go_at_call 45; refine (qstrange_any _ _ _ _ _).mono ?_; rintro e w' ⟨rfl, rfl⟩))
      go_region_held3 (fun w' => w'.cell? ⟨w.heap.size, 0, none⟩ = some (.int .i64 r.slice) ∧ w'.cell? ⟨w.heap.size + 1, 0, none⟩ = some (.string j.name) ∧ w'.cell? ⟨w.heap.size + 1, 1, none⟩ = some (.int .i64 j.arrive) ∧ w'.cell? ⟨w.heap.size + 1, 2, none⟩ = some (.int .i64 j.claim) ∧ w'.cell? ⟨w.heap.size + 1, 3, none⟩ = some (.int .i64 j.needs))
        (first | (go_simp; done))
        (first | (go_at_call 52; refine (qend_jb j _).mono ?_; rintro e w' ⟨rfl, rfl⟩))
      go_wp2_with fail
      go_region_held3 (fun w' => w'.cell? ⟨w.heap.size, 1, none⟩ = some (.int .i64 r.load) ∧ w'.cell? ⟨w.heap.size, 2, none⟩ = some (.int .i64 r.dump) ∧ w'.cell? ⟨w.heap.size, 4, none⟩ = some (.int .i64 r.rate) ∧ w'.cell? ⟨w.heap.size + 1, 0, none⟩ = some (.string j.name) ∧ w'.cell? ⟨w.heap.size + 1, 1, none⟩ = some (.int .i64 j.arrive) ∧ w'.cell? ⟨w.heap.size + 1, 2, none⟩ = some (.int .i64 j.claim) ∧ w'.cell? ⟨w.heap.size + 1, 3, none⟩ = some (.int .i64 j.needs))
        (first | (go_simp; done))
        (first | (go_at_call 52; refine (qend_jb j _).mono ?_; rintro e w' ⟨rfl, rfl⟩))
      go_wp2_with fail
      go_ret2
      refine ⟨by rw [Hl.out, He.out]; rfl, (by repeat (first | (with_reducible exact Below.refl _ _) | (with_reducible refine bdrewN ?_ _) | (with_reducible refine Below.drew ?_) | (with_reducible refine Below.setCell ?_ (by first | omega | (simp; done) | (simp; omega)) _) | (with_reducible refine Below.alloc ?_ (by first | omega | (simp; done) | (simp; omega)) _)))⟩
    · have hn' : Job.numOk ⟨j.name, j.arrive, j.claim, j.needs⟩ = false := hn
      have Hl := hid (show quote r j = 0 by simp [quote, hn])
      have He := hid (show quoteErr r j = 7 by simp [quoteErr, hn])
      clear hr hn
      go_enter Try.func30, Try.ntmps30
      go_wp2_with (first | (go_at_call 43; refine (qodd_any _ _ _ _ _ _).mono ?_; rintro e w' ⟨rfl, rfl⟩) | (go_at_call 45; refine (qstrange_any _ _ _ _ _).mono ?_; rintro e w' ⟨rfl, rfl⟩))
      go_ret2
      refine ⟨by rw [Hl.out, He.out]; rfl, (by repeat (first | (with_reducible exact Below.refl _ _) | (with_reducible refine bdrewN ?_ _) | (with_reducible refine Below.drew ?_) | (with_reducible refine Below.setCell ?_ (by first | omega | (simp; done) | (simp; omega)) _) | (with_reducible refine Below.alloc ?_ (by first | omega | (simp; done) | (simp; omega)) _)))⟩
  · have hr' : Rules.ok ⟨r.slice, r.load, r.dump, r.patience, r.rate⟩ = false := hr
    have Hl := hid (show quote r j = 0 by simp [quote, hr])
    have He := hid (show quoteErr r j = 7 by simp [quoteErr, hr])
    clear hr
    go_enter Try.func30, Try.ntmps30
    go_wp2_with (first | (go_at_call 43; refine (qodd_any _ _ _ _ _ _).mono ?_; rintro e w' ⟨rfl, rfl⟩) | (go_at_call 45; refine (qstrange_any _ _ _ _ _).mono ?_; rintro e w' ⟨rfl, rfl⟩))
    go_ret2
    refine ⟨by rw [Hl.out, He.out]; rfl, (by repeat (first | (with_reducible exact Below.refl _ _) | (with_reducible refine bdrewN ?_ _) | (with_reducible refine Below.drew ?_) | (with_reducible refine Below.setCell ?_ (by first | omega | (simp; done) | (simp; omega)) _) | (with_reducible refine Below.alloc ?_ (by first | omega | (simp; done) | (simp; omega)) _)))⟩

end Go.Proofs.Ytbjgebbfachgfaa
/- Quote: the reference's, whose loop takes slice by slice. -/
namespace Go.Proofs.Ytbjgebbfachgfaa
open Go.RowKit

theorem quote_of {F s l du rt d m t : Int} (hs : 1 ≤ s) (hm : m = d * (l + s + du)) (ht : t = F - d * s) (h1 : 1 ≤ t) (h2 : t ≤ s) :
    (m + l + t) * rt = (F + ((F - 1) / s + 1) * l + (F - 1) / s * du) * rt := by
  have hd : (F - 1) / s = d := by
    have : F - 1 = (t - 1) + s * d := by rw [ht, Int.mul_comm]; omega
    rw [this, Int.add_mul_ediv_left _ _ (by omega), Int.ediv_eq_zero_of_lt (by omega) (by omega)]; omega
  rw [hd]
  congr 1
  rw [hm, ht, Int.mul_add, Int.mul_add, Int.add_mul]
  omega

theorem rend_job (j : Job) (w : World) : Calls Try.prog 39 #[.agg #[.string j.name, .int .i64 j.arrive, .int .i64 j.claim, .int .i64 j.needs]] w fun e w' => e = .returned (.int .i64 j.fin) ∧ w.alloc (.cells #[.string j.name, .int .i64 j.arrive, .int .i64 j.claim, .int .i64 j.needs] 56) = w' := rend_any _ _ _ _ w

set_option maxRecDepth 100000 in
set_option maxHeartbeats 2000000 in
theorem rquote_any (r : Rules) (j : Job) (w : World) :
    Calls Try.prog 31 #[.agg #[.int .i64 r.slice, .int .i64 r.load, .int .i64 r.dump, .int .i64 r.patience, .int .i64 r.rate], .agg #[.string j.name, .int .i64 j.arrive, .int .i64 j.claim, .int .i64 j.needs]] w fun e w' => e = .returned (.tuple #[.int .i64 (quote r j), .int .i64 (quoteErr r j)]) ∧ Below w.heap.size w w' := by
  rcases Bool.eq_false_or_eq_true r.ok with hr | hr
  · have hr' : Rules.ok ⟨r.slice, r.load, r.dump, r.patience, r.rate⟩ = true := hr
    rcases Bool.eq_false_or_eq_true j.numOk with hn | hn
    · have hn' : Job.numOk ⟨j.name, j.arrive, j.claim, j.needs⟩ = true := hn
      have Hl := hid (show quote r j = (j.fin + ((j.fin - 1) / r.slice + 1) * r.load + (j.fin - 1) / r.slice * r.dump) * r.rate by simp [quote, hr, hn])
      have He := hid (show quoteErr r j = 0 by simp [quoteErr, hr, hn])
      obtain ⟨⟨b1, b2⟩, ⟨b3, b4⟩, ⟨b5, b6⟩, ⟨b7, b8⟩, b9, b10⟩ := (Rules.ok_iff _).1 hr
      obtain ⟨f1, f2, f3, f4⟩ := Job.fin_bd hn
      clear hr hn
      go_enter Try.func31, Try.ntmps31
      go_wp2_with (first | (go_at_call 42; refine (rrules_any _ _ _ _ _ _).mono ?_; rintro e w' ⟨rfl, rfl⟩) | (go_at_call 48; refine (rnumbers_any _ _ _ _ _).mono ?_; rintro e w' ⟨rfl, rfl⟩) | (go_at_call 39; refine (rend_job j _).mono ?_; rintro e w' ⟨rfl, rfl⟩))
      go_loopw [6, 7] (fun u t wr => ∃ m l d : Int, u = .int .i64 m ∧ t = .int .i64 l ∧ 1 ≤ l ∧ l ≤ 2000 ∧ 0 ≤ m ∧ m ≤ (2000 - l) * 660 ∧ Hid (m = d * (r.load + r.slice + r.dump)) ∧ Hid (l = j.fin - d * r.slice) ∧
        Below (w.heap.size + 2) ((w.alloc (.cells #[.int .i64 r.slice, .int .i64 r.load, .int .i64 r.dump, .int .i64 r.patience, .int .i64 r.rate] 23)).alloc (.cells #[.string j.name, .int .i64 j.arrive, .int .i64 j.claim, .int .i64 j.needs] 56)) wr) (fun _ t _ => (intOf t).toNat)
      case atStart => exact ⟨0, j.fin, 0, rfl, rfl, by omega, by omega, by omega, by omega, hid (by omega), hid (by omega), (by repeat (first | (with_reducible exact Below.refl _ _) | (with_reducible refine bdrewN ?_ _) | (with_reducible refine Below.drew ?_) | (with_reducible refine Below.setCell ?_ (by first | omega | (simp; done) | (simp; omega)) _) | (with_reducible refine Below.alloc ?_ (by first | omega | (simp; done) | (simp; omega)) _)))⟩
      case round =>
        obtain ⟨m, l, d, rfl, rfl, l1, l2, m1, m2, hm, hl, hB⟩ := hrel
        obtain ⟨hc, hf⟩ := bcell hB
        by_cases hlt : r.slice < l
        · have s1 : IntKind.i64.wrap (m + r.load) = m + r.load := IntWalk.i64_in _ (by omega)
          have s2 : IntKind.i64.wrap (m + r.load + r.slice) = m + r.load + r.slice := IntWalk.i64_in _ (by omega)
          have s3 : IntKind.i64.wrap (m + r.load + r.slice + r.dump) = m + r.load + r.slice + r.dump := IntWalk.i64_in _ (by omega)
          have s4 : IntKind.i64.wrap (l - r.slice) = l - r.slice := IntWalk.i64_in _ (by omega)
          go_wp2_with fail
          go_quiet (fail)
          clear s1 s2 s3 s4
          go_wp2_with fail
          go_roundw
          case rel =>
            refine ⟨_, _, d + 1, rfl, rfl, by omega, by omega, by omega, by omega, hid ?_, hid ?_, bdrewN hB _⟩
            · rw [hm.out, Int.add_mul]; omega
            · rw [hl.out, Int.add_mul]; omega
          case measure => simp [intOf]; omega
        · have h3 : m + r.load + l ≤ 2000 * 660 + 30 + 2000 := by omega
          have p1 : 0 ≤ (m + r.load + l) * r.rate := Int.mul_nonneg (by omega) (by omega)
          have p2 : (m + r.load + l) * r.rate ≤ (2000 * 660 + 30 + 2000) * 1000 := Int.mul_le_mul h3 (by omega) (by omega) (by omega)
          have Hq := hid (quote_of (rt := r.rate) b1 hm.out hl.out l1 (by omega))
          go_wp2_with fail
          go_ret2
          refine ⟨by rw [Hl.out, He.out, ← Hq.out]; rfl, Below.trans (by repeat (first | (with_reducible exact Below.refl _ w) | (with_reducible refine bdrewN ?_ _) | (with_reducible refine Below.drew ?_) | (with_reducible refine Below.setCell ?_ (by first | omega | (simp; done) | (simp; omega)) _) | (with_reducible refine Below.alloc ?_ (by first | omega | (simp; done) | (simp; omega)) _))) (hB.mono (by omega))⟩
    · have hn' : Job.numOk ⟨j.name, j.arrive, j.claim, j.needs⟩ = false := hn
      have Hl := hid (show quote r j = 0 by simp [quote, hn])
      have He := hid (show quoteErr r j = 7 by simp [quoteErr, hn])
      clear hr hn
      go_enter Try.func31, Try.ntmps31
      go_wp2_with (first | (go_at_call 42; refine (rrules_any _ _ _ _ _ _).mono ?_; rintro e w' ⟨rfl, rfl⟩) | (go_at_call 48; refine (rnumbers_any _ _ _ _ _).mono ?_; rintro e w' ⟨rfl, rfl⟩))
      go_ret2
      refine ⟨by rw [Hl.out, He.out]; rfl, (by repeat (first | (with_reducible exact Below.refl _ _) | (with_reducible refine bdrewN ?_ _) | (with_reducible refine Below.drew ?_) | (with_reducible refine Below.setCell ?_ (by first | omega | (simp; done) | (simp; omega)) _) | (with_reducible refine Below.alloc ?_ (by first | omega | (simp; done) | (simp; omega)) _)))⟩
  · have hr' : Rules.ok ⟨r.slice, r.load, r.dump, r.patience, r.rate⟩ = false := hr
    have Hl := hid (show quote r j = 0 by simp [quote, hr])
    have He := hid (show quoteErr r j = 7 by simp [quoteErr, hr])
    clear hr
    go_enter Try.func31, Try.ntmps31
    go_wp2_with (first | (go_at_call 42; refine (rrules_any _ _ _ _ _ _).mono ?_; rintro e w' ⟨rfl, rfl⟩) | (go_at_call 48; refine (rnumbers_any _ _ _ _ _).mono ?_; rintro e w' ⟨rfl, rfl⟩))
    go_ret2
    refine ⟨by rw [Hl.out, He.out]; rfl, (by repeat (first | (with_reducible exact Below.refl _ _) | (with_reducible refine bdrewN ?_ _) | (with_reducible refine Below.drew ?_) | (with_reducible refine Below.setCell ?_ (by first | omega | (simp; done) | (simp; omega)) _) | (with_reducible refine Below.alloc ?_ (by first | omega | (simp; done) | (simp; omega)) _)))⟩

end Go.Proofs.Ytbjgebbfachgfaa
/- all contracts together -/
namespace Go.Proofs.Ytbjgebbfachgfaa
end Go.Proofs.Ytbjgebbfachgfaa
