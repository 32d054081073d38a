/- Plain laws of valves: what is asked, in closed form; the same checks, fewer checks; when it fails. -/
import Derived.Test.YtndcmmghgljinaaM3
set_option linter.all false
namespace Go.Proofs.Ytndcmmghgljinaa

def AOk (k : Kd) (cs : List MCk) (h : Int) : Prop := kdErr k = 0 ∧ cs.length ≤ 30 ∧ (∀ c ∈ cs, chkOk k c = true) ∧ Valid k cs ∧ 0 ≤ h ∧ h ≤ 100000 ∧ lastH cs ≤ h
def closed (k : Kd) (cs : List MCk) (h : Int) : Span := ⟨loC k cs h, max 0 (hiC k cs h)⟩
theorem chk_bd {k : Kd} {c : MCk} (h : chkOk k c = true) : (0 ≤ c.hour ∧ c.hour ≤ 100000) ∧ voltOk k c.volt = true := by
  unfold chkOk at h
  rw [Bool.and_eq_true, inb_iff] at h
  exact h
theorem chks_ok {k : Kd} {cs : List MCk} (h : ∀ c ∈ cs, chkOk k c = true) : ∀ c ∈ cs, 0 ≤ c.hour ∧ voltOk k c.volt = true := fun c hc => ⟨(chk_bd (h c hc)).1.1, (chk_bd (h c hc)).2⟩
theorem later_closed {k : Kd} (hK : KOk k) {cs : List MCk} {h : Int} (hh : lastH cs ≤ h) : later k (closed k cs (lastH cs)) (h - lastH cs) = closed k cs h := by
  have e1 := loC_later (k := k) cs (t := lastH cs) (d := h - lastH cs) (by have := hK.w0; have := hK.w1; omega) (by omega)
  have e2 := hiC_later (k := k) cs (t := lastH cs) (d := h - lastH cs)
  rw [show lastH cs + (h - lastH cs) = h by omega] at e1 e2
  have hdw : 0 ≤ (h - lastH cs) * k.wear.lo := Int.mul_nonneg (by omega) hK.w0
  unfold later closed
  simp only [e1]
  congr 1
  omega
open Classical in
theorem known_closed {k : Kd} (hK : KOk k) {cs : List MCk} (hc : ∀ c ∈ cs, chkOk k c = true) : known k cs = if Valid k cs then some (closed k cs (lastH cs), lastH cs) else none := by
  obtain ⟨h1, h2⟩ := sortC_ok cs
  unfold known
  exact runC_perm hK h1 (fun c => h2.mem_iff) (chks_ok hc)
theorem asked_of {k : Kd} {cs : List MCk} {h : Int} (ha : AOk k cs h) : asked k cs h = (closed k cs h, 0) := by
  obtain ⟨hE, hl, hc, hv, h0, h1, hh⟩ := ha
  have hK := kok_of hE
  unfold asked
  rw [if_neg (by simp [hE]), if_neg (by omega), if_neg (by simp; exact hc), known_closed hK hc, if_pos hv]
  show (if inb h 0 100000 = false then _ else _) = _
  rw [if_neg (by rw [(inb_iff _ _ _).2 ⟨h0, h1⟩]; decide), if_neg (by omega), later_closed hK hh]
theorem asked_ok {k : Kd} {cs : List MCk} {h : Int} (he : (asked k cs h).2 = 0) : AOk k cs h := by
  unfold asked at he
  split at he
  · rename_i h1; exact absurd he h1
  rename_i h1
  split at he
  · cases he
  rename_i h2
  split at he
  · cases he
  rename_i h3
  have hE : kdErr k = 0 := by simpa using h1
  have hc : ∀ c ∈ cs, chkOk k c = true := by simpa using h3
  rw [known_closed (kok_of hE) hc] at he
  by_cases hv : Valid k cs
  · rw [if_pos hv] at he
    simp only at he
    split at he
    · cases he
    rename_i h4
    split at he
    · cases he
    rename_i h5
    have h6 := (inb_iff h 0 100000).1 (by simpa using h4)
    exact ⟨hE, by omega, hc, hv, h6.1, h6.2, by omega⟩
  · rw [if_neg hv] at he; cases he
/-- the same checks, in any order, however often -/
theorem aok_same {k : Kd} {cs cs' : List MCk} {h : Int} (ha : AOk k cs h) (hm : ∀ c, c ∈ cs ↔ c ∈ cs') (hl : cs'.length ≤ 30) : AOk k cs' h ∧ closed k cs' h = closed k cs h := by
  obtain ⟨hE, _, hc, hv, h0, h1, hh⟩ := ha
  refine ⟨⟨hE, hl, fun c hc' => hc c ((hm c).2 hc'), valid_same hm hv, h0, h1, by rw [← lastH_same hm]; exact hh⟩, ?_⟩
  unfold closed
  rw [loC_same hm, hiC_same hm]
theorem valid_sub {k : Kd} {l l' : List MCk} (h : ∀ c ∈ l, c ∈ l') (hv : Valid k l') : Valid k l := by
  intro c hc
  obtain ⟨h1, h2⟩ := hv c (h c hc)
  refine ⟨?_, h2⟩
  have hsub : ∀ y ∈ upto l c.hour, y ∈ upto l' c.hour := by
    intro y hy; unfold upto at hy ⊢; rw [List.mem_filter] at hy ⊢; exact ⟨h y hy.1, hy.2⟩
  have a1 := loC_mono (k := k) hsub c.hour
  have a2 := hiC_mono (k := k) hsub c.hour
  omega
/-- fewer checks -/
theorem aok_sub {k : Kd} {cs cs' : List MCk} {h : Int} (ha : AOk k cs h) (hm : ∀ c ∈ cs', c ∈ cs) (hl : cs'.length ≤ 30) : AOk k cs' h ∧ (closed k cs' h).lo ≤ (closed k cs h).lo ∧ (closed k cs h).hi ≤ (closed k cs' h).hi := by
  obtain ⟨hE, _, hc, hv, h0, h1, hh⟩ := ha
  refine ⟨⟨hE, hl, fun c hc' => hc c (hm c hc'), valid_sub hm hv, h0, h1, ?_⟩, loC_mono hm h, ?_⟩
  · obtain ⟨a, b⟩ := lastH_iff.1 hh
    exact lastH_iff.2 ⟨a, fun c hc' => b c (hm c hc')⟩
  · have := hiC_mono (k := k) hm h
    unfold closed
    simp only
    omega
/-- a later hour -/
theorem closed_later {k : Kd} (hK : KOk k) {cs : List MCk} {h h' : Int} (hh : h ≤ h') : (closed k cs h').lo ≤ (closed k cs h).lo ∧ (closed k cs h').hi ≤ (closed k cs h).hi := by
  have e1 := loC_later (k := k) cs (t := h) (d := h' - h) (by have := hK.w0; have := hK.w1; omega) (by omega)
  have e2 := hiC_later (k := k) cs (t := h) (d := h' - h)
  rw [show h + (h' - h) = h' by omega] at e1 e2
  have hd1 : 0 ≤ (h' - h) * k.wear.lo := Int.mul_nonneg (by omega) hK.w0
  have hd2 : 0 ≤ (h' - h) * k.wear.hi := Int.mul_nonneg (by omega) (by have := hK.w0; have := hK.w1; omega)
  have := loC_nn k cs h
  unfold closed
  simp only
  omega

/- when it fails -/
theorem below_nn {s n w : Int} (hw : 0 ≤ w) : below s n w = -1 ∨ 0 ≤ below s n w := by
  unfold below
  split
  · exact .inr (Int.le_refl _)
  · split
    · exact .inl rfl
    · exact .inr (Int.ediv_nonneg (by omega) hw)
/-- a greater strength fails no earlier -/
theorem below_mono {s s' n w : Int} (_hn : 0 ≤ n) (hw : 0 ≤ w) (h : s ≤ s') : below s' n w < 0 ∨ (0 ≤ below s n w ∧ below s n w ≤ below s' n w) := by
  unfold below
  by_cases h1 : s' < n
  · right; rw [if_pos h1, if_pos (by omega)]; omega
  · rw [if_neg h1]
    by_cases h2 : n = 0 ∨ w = 0
    · left; rw [if_pos h2]; decide
    · rw [if_neg h2]
      right
      have hw' : 0 < w := by omega
      by_cases h3 : s < n
      · rw [if_pos h3]; exact ⟨Int.le_refl _, Int.ediv_nonneg (by omega) hw⟩
      · rw [if_neg h3, if_neg h2]
        exact ⟨Int.ediv_nonneg (by omega) hw, Int.ediv_le_ediv hw' (by omega)⟩
/-- the hour before is not below, this hour is: what a strength that falls by w each hour does -/
theorem below_spec {s n w t : Int} (hw : 0 ≤ w) (ht : 0 ≤ t) : (s - t * w < n → 0 ≤ below s n w → below s n w ≤ t) ∧ (0 ≤ below s n w → below s n w ≤ t → s - t * w < n ∨ n = 0) := by
  constructor
  · intro h h0
    unfold below at *
    by_cases h1 : s < n
    · rw [if_pos h1]; exact ht
    · rw [if_neg h1] at h0 ⊢
      by_cases h2 : n = 0 ∨ w = 0
      · rw [if_pos h2] at h0; omega
      · rw [if_neg h2]
        have hw' : 0 < w := by omega
        have : s - n + w < (t + 1) * w := by rw [Int.add_mul]; omega
        have := Int.ediv_lt_of_lt_mul hw' this
        omega
  · intro h0 h
    unfold below at *
    by_cases h1 : s < n
    · left; have := Int.mul_nonneg ht hw; omega
    · rw [if_neg h1] at h0 h
      by_cases h2 : n = 0 ∨ w = 0
      · rw [if_pos h2] at h0; omega
      · rw [if_neg h2] at h
        have hw' : 0 < w := by omega
        left
        have h3 := Int.lt_ediv_add_one_mul_self (s - n + w) hw'
        have h4 : ((s - n + w) / w + 1) * w ≤ (t + 1) * w := Int.mul_le_mul_of_nonneg_right (by omega) hw
        rw [Int.add_mul t 1 w] at h4
        omega

end Go.Proofs.Ytndcmmghgljinaa
