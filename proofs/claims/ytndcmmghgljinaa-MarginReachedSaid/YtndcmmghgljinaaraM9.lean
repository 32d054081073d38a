/- Plain laws of valves: a truth is found back from check to check. -/
import Derived.Test.YtndcmmghgljinaaraY1
set_option linter.all false
namespace Go.Proofs.Ytndcmmghgljinaa

def beforeC (cs : List MCk) (t : Int) : List MCk := cs.filter fun c => decide (c.hour < t)
/-- the strength at the hour of the last check, from which a later one can come -/
def backLow (k : Kd) (s : Span) (d x : Int) : Int := if x = 0 then s.lo else max s.lo (x + d * k.wear.lo)
def backHigh (k : Kd) (s : Span) (d x : Int) : Int := min s.hi (x + d * k.wear.hi)
theorem law_back {k : Kd} {cs : List MCk} {h x : Int} (he : (asked k cs h).2 = 0) (hl : (asked k cs h).1.lo ≤ x) (hh : x ≤ (asked k cs h).1.hi) (hne : cs ≠ []) :
    (asked k cs (lastH cs)).2 = 0 ∧ lastH cs ≤ h ∧ 0 ≤ lastH cs ∧
    backLow k (asked k cs (lastH cs)).1 (h - lastH cs) x ≤ backHigh k (asked k cs (lastH cs)).1 (h - lastH cs) x ∧
    (∀ c ∈ cs, c.hour = lastH cs → c.passed = decide (needed k c.volt ≤ backLow k (asked k cs (lastH cs)).1 (h - lastH cs) x)) ∧
    (asked k (beforeC cs (lastH cs)) (lastH cs)).2 = 0 ∧
    (asked k (beforeC cs (lastH cs)) (lastH cs)).1.lo ≤ backLow k (asked k cs (lastH cs)).1 (h - lastH cs) x ∧
    backLow k (asked k cs (lastH cs)).1 (h - lastH cs) x ≤ (asked k (beforeC cs (lastH cs)) (lastH cs)).1.hi := by
  have hA := asked_ok he
  rw [asked_of hA] at hl hh
  dsimp only at hl hh
  obtain ⟨hE, hlen, hc, hvd, h0, h1, hlh⟩ := hA
  have hK := kok_of hE
  obtain ⟨g0, g1⟩ := lastH_iff.1 (Int.le_refl (lastH cs))
  have hA2 : AOk k cs (lastH cs) := ⟨hE, hlen, hc, hvd, g0, by omega, Int.le_refl _⟩
  have hA3 := aok_sub hA2 (cs' := beforeC cs (lastH cs)) (fun c hm => by unfold beforeC at hm; exact (List.mem_filter.1 hm).1) (Nat.le_trans (List.length_filter_le _ _) hlen)
  have hlt := later_closed hK (cs := cs) (h := h) hlh
  rw [asked_of hA2, asked_of hA3.1]
  dsimp only
  have hw0 := hK.w0
  have hw1 := hK.w1
  -- a check at the last hour
  have hlo0 := loC_nn k cs (lastH cs)
  have hval : loC k cs (lastH cs) ≤ max 0 (hiC k cs (lastH cs)) := by
    by_cases hz : lastH cs = 0
    · obtain ⟨c, hm⟩ := List.exists_mem_of_ne_nil cs hne
      have hce : c.hour = lastH cs := by have := g1 c hm; have := (chk_bd (hc c hm)).1.1; omega
      have := (hvd c hm).1
      rw [upto_all (fun x hx => by rw [hce]; exact g1 x hx), hce] at this
      exact this
    · have hex : ∃ c ∈ cs, c.hour = lastH cs := by
        by_cases hx : ∃ c ∈ cs, c.hour = lastH cs
        · exact hx
        · exfalso
          have : lastH cs ≤ lastH cs - 1 := lastH_iff.2 ⟨by omega, fun c hm => by
            have h2 := g1 c hm
            by_cases h3 : c.hour = lastH cs
            · exact absurd ⟨c, hm, h3⟩ hx
            · omega⟩
          omega
      obtain ⟨c, hm, hce⟩ := hex
      have := (hvd c hm).1
      rw [upto_all (fun x hx => by rw [hce]; exact g1 x hx), hce] at this
      exact this
  have el : (closed k cs h).lo = max 0 ((closed k cs (lastH cs)).lo - (h - lastH cs) * k.wear.hi) := by rw [← hlt]; rfl
  have eh : (closed k cs h).hi = max 0 ((closed k cs (lastH cs)).hi - (h - lastH cs) * k.wear.lo) := by rw [← hlt]; rfl
  have d0 : 0 ≤ (h - lastH cs) * k.wear.lo := Int.mul_nonneg (by omega) hw0
  have d1 : (h - lastH cs) * k.wear.lo ≤ (h - lastH cs) * k.wear.hi := Int.mul_le_mul_of_nonneg_left hw1 (by omega)
  have elo : (closed k cs (lastH cs)).lo = loC k cs (lastH cs) := rfl
  have ehi : (closed k cs (lastH cs)).hi = max 0 (hiC k cs (lastH cs)) := rfl
  have hbl : backLow k (closed k cs (lastH cs)) (h - lastH cs) x ≤ backHigh k (closed k cs (lastH cs)) (h - lastH cs) x := by
    unfold backLow backHigh
    split <;> omega
  have hb1 : (closed k cs (lastH cs)).lo ≤ backLow k (closed k cs (lastH cs)) (h - lastH cs) x := by unfold backLow; split <;> omega
  have hb2 : backLow k (closed k cs (lastH cs)) (h - lastH cs) x ≤ (closed k cs (lastH cs)).hi := by unfold backHigh at hbl; omega
  refine ⟨rfl, hlh, g0, hbl, fun c hm hce => ?_, rfl, by have := hA3.2.1; omega, by have := hA3.2.2; omega⟩
  have hz : ∀ w : Int, (lastH cs - lastH cs) * w = 0 := by intro w; rw [Int.sub_self, Int.zero_mul]
  cases hp : c.passed with
  | true =>
    have := (loC_le.1 (Int.le_refl (loC k cs (lastH cs)))).2.2 c hm hp
    rw [hce, hz] at this
    symm; rw [decide_eq_true_eq]; omega
  | false =>
    have := (le_hiC.1 (Int.le_refl (hiC k cs (lastH cs)))).2 c hm hp
    rw [hce, hz] at this
    have h3 := (hvd c hm).2 hp
    symm; rw [decide_eq_false_iff_not]; omega
/-- with no checks: from when it was new -/
theorem law_back0 {k : Kd} {h x : Int} (he : (asked k [] h).2 = 0) (hl : (asked k [] h).1.lo ≤ x) (hh : x ≤ (asked k [] h).1.hi) : (x = 0 ∨ x ≤ k.new - h * k.wear.lo) ∧ k.new - h * k.wear.hi ≤ x := by
  have hA := asked_ok he
  rw [asked_of hA] at hl hh
  dsimp only at hl hh
  have e1 : (closed k [] h).lo = max 0 (k.new - h * k.wear.hi) := rfl
  have e2 : (closed k [] h).hi = max 0 (k.new - h * k.wear.lo) := rfl
  omega

end Go.Proofs.Ytndcmmghgljinaa
