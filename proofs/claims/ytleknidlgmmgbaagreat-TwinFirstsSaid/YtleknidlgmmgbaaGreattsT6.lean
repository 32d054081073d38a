/- The engineers' entries: what Merge and Suspects return. -/
import Derived.Laws.Strings
import Derived.Test.YtleknidlgmmgbaaGreattsT2
set_option linter.all false
namespace Go.Proofs.YtleknidlgmmgbaaGreat

theorem bl_irrefl : ∀ (x : List UInt8), Op.bytesLess x x = false
  | [] => rfl
  | a :: x => by
    show (decide (a < a) || (a == a && Op.bytesLess x x)) = false
    rw [bl_irrefl x]; simp
theorem u8_tri (a b : UInt8) : a < b ∨ a = b ∨ b < a := by
  rcases Nat.lt_trichotomy a.toNat b.toNat with h | h | h
  · exact .inl (UInt8.lt_iff_toNat_lt.2 h)
  · exact .inr (.inl (UInt8.toNat_inj.1 h))
  · exact .inr (.inr (UInt8.lt_iff_toNat_lt.2 h))
theorem bl_cons (a b : UInt8) (x y : List UInt8) : Op.bytesLess (a :: x) (b :: y) = true ↔ a < b ∨ a = b ∧ Op.bytesLess x y = true := by
  show (decide (a < b) || (a == b && Op.bytesLess x y)) = true ↔ _
  simp
theorem bl_trans : ∀ {x y z : List UInt8}, Op.bytesLess x y = true → Op.bytesLess y z = true → Op.bytesLess x z = true
  | _, [], _, h, _ => by simp [Op.bytesLess] at h
  | _, _ :: _, [], _, h => by simp [Op.bytesLess] at h
  | [], _ :: _, _ :: _, _, _ => by simp [Op.bytesLess]
  | a :: x, b :: y, c :: z, h1, h2 => by
    rw [bl_cons] at h1 h2 ⊢
    rcases h1 with h1 | ⟨rfl, h1⟩
    · rcases h2 with h2 | ⟨rfl, h2⟩
      · left; rw [UInt8.lt_iff_toNat_lt] at *; omega
      · exact .inl h1
    · rcases h2 with h2 | ⟨rfl, h2⟩
      · exact .inl h2
      · exact .inr ⟨rfl, bl_trans h1 h2⟩
theorem bl_tri : ∀ (x y : List UInt8), Op.bytesLess x y = true ∨ x = y ∨ Op.bytesLess y x = true
  | [], [] => .inr (.inl rfl)
  | [], _ :: _ => .inl rfl
  | _ :: _, [] => .inr (.inr rfl)
  | a :: x, b :: y => by
    rw [bl_cons, bl_cons]
    rcases u8_tri a b with h | rfl | h
    · exact .inl (.inl h)
    · rcases bl_tri x y with h | rfl | h
      · exact .inl (.inr ⟨rfl, h⟩)
      · exact .inr (.inl rfl)
      · exact .inr (.inr (.inr ⟨rfl, h⟩))
    · exact .inr (.inr (.inl h))
theorem ba_inj {a b : ByteArray} (h : a.toList = b.toList) : a = b := by
  rw [ByteArray.toList_eq, ByteArray.toList_eq] at h
  cases a; cases b
  simp at h
  rw [h]
structure Ent where
  num : Int
  mach : Int
  day : Int
  unit : ByteArray
deriving DecidableEq
structure Unt where
  mach : Int
  unit : ByteArray
deriving DecidableEq
instance : Inhabited Ent := ⟨⟨0, 0, 0, ByteArray.empty⟩⟩
def Ent.u (x : Ent) : Unt := ⟨x.mach, x.unit⟩

/- lists in a strict order -/
section
variable {α : Type} [DecidableEq α]
structure Tot (lt : α → α → Bool) (P : α → Prop) : Prop where
  irr : ∀ x, P x → lt x x = false
  tr : ∀ x y z, P x → P y → P z → lt x y = true → lt y z = true → lt x z = true
  tri : ∀ x y, P x → P y → lt x y = true ∨ x = y ∨ lt y x = true
def insL (lt : α → α → Bool) (x : α) : List α → List α
  | [] => [x]
  | y :: l => if lt y x then y :: insL lt x l else x :: y :: l
theorem insL_mem {lt : α → α → Bool} {x z : α} : ∀ {l : List α}, z ∈ insL lt x l ↔ z = x ∨ z ∈ l
  | [] => by simp [insL]
  | y :: l => by
    unfold insL
    split
    · rw [List.mem_cons, insL_mem, List.mem_cons]
      constructor
      · rintro (h | h | h)
        · exact .inr (.inl h)
        · exact .inl h
        · exact .inr (.inr h)
      · rintro (h | h | h)
        · exact .inr (.inl h)
        · exact .inl h
        · exact .inr (.inr h)
    · simp
theorem insL_sorted {lt : α → α → Bool} {P : α → Prop} (T : Tot lt P) {x : α} (hx : P x) : ∀ {l : List α}, (∀ y ∈ l, P y) → l.Pairwise (fun a b => lt a b = true) → x ∉ l → (insL lt x l).Pairwise (fun a b => lt a b = true)
  | [], _, _, _ => List.pairwise_singleton _ _
  | y :: l, hP, hs, hn => by
    have h1 := List.pairwise_cons.1 hs
    unfold insL
    split
    · rename_i hlt
      rw [List.pairwise_cons]
      refine ⟨fun z hz => ?_, insL_sorted T hx (fun z hz => hP z (by simp [hz])) h1.2 (fun h => hn (by simp [h]))⟩
      rcases insL_mem.1 hz with rfl | hz
      · exact hlt
      · exact h1.1 z hz
    · rename_i hlt
      have hxy : lt x y = true := by
        rcases T.tri x y hx (hP y (by simp)) with h | h | h
        · exact h
        · exact absurd (by rw [h]; simp) hn
        · exact absurd h hlt
      rw [List.pairwise_cons]
      refine ⟨fun z hz => ?_, hs⟩
      rcases List.mem_cons.1 hz with rfl | hz
      · exact hxy
      · exact T.tr x y z hx (hP y (by simp)) (hP z (by simp [hz])) hxy (h1.1 z hz)
/-- two lists in a strict order with the same members are one -/
theorem sorted_uniq {lt : α → α → Bool} {P : α → Prop} (T : Tot lt P) : ∀ {l m : List α}, (∀ y ∈ l, P y) → l.Pairwise (fun a b => lt a b = true) → m.Pairwise (fun a b => lt a b = true) → (∀ x, x ∈ l ↔ x ∈ m) → l = m
  | [], [], _, _, _, _ => rfl
  | [], b :: m, _, _, _, h => by have := (h b).2 (by simp); cases this
  | a :: l, [], _, _, _, h => by have := (h a).1 (by simp); cases this
  | a :: l, b :: m, hP, hl, hm, h => by
    have h1 := List.pairwise_cons.1 hl
    have h2 := List.pairwise_cons.1 hm
    have hPm : ∀ y ∈ b :: m, P y := fun y hy => hP y ((h y).2 hy)
    have hab : a = b := by
      rcases List.mem_cons.1 ((h a).1 (by simp)) with e | e
      · exact e
      · rcases List.mem_cons.1 ((h b).2 (by simp)) with e2 | e2
        · exact e2.symm
        · have g1 := h1.1 b e2
          have g2 := h2.1 a e
          have := T.tr a b a (hP a (by simp)) (hPm b (by simp)) (hP a (by simp)) g1 g2
          rw [T.irr a (hP a (by simp))] at this
          cases this
    subst hab
    congr 1
    refine sorted_uniq T (fun y hy => hP y (by simp [hy])) h1.2 h2.2 fun x => ?_
    constructor
    · intro hx
      rcases List.mem_cons.1 ((h x).1 (by simp [hx])) with rfl | g
      · have := h1.1 x hx; rw [T.irr x (hP x (by simp))] at this; cases this
      · exact g
    · intro hx
      rcases List.mem_cons.1 ((h x).2 (by simp [hx])) with rfl | g
      · have := h2.1 x hx; rw [T.irr x (hP x (by simp))] at this; cases this
      · exact g
def setL (lt : α → α → Bool) (l : List α) : List α := l.foldl (fun out x => if x ∈ out then out else insL lt x out) []
theorem setL_go {lt : α → α → Bool} {P : α → Prop} (T : Tot lt P) : ∀ {l out : List α}, (∀ y ∈ l, P y) → (∀ y ∈ out, P y) → out.Pairwise (fun a b => lt a b = true) →
    (l.foldl (fun out x => if x ∈ out then out else insL lt x out) out).Pairwise (fun a b => lt a b = true) ∧ ∀ x, x ∈ l.foldl (fun out x => if x ∈ out then out else insL lt x out) out ↔ x ∈ out ∨ x ∈ l
  | [], out, _, _, hs => ⟨hs, fun x => by simp⟩
  | y :: l, out, hl, ho, hs => by
    rw [List.foldl_cons]
    by_cases hm : y ∈ out
    · rw [if_pos hm]
      obtain ⟨g1, g2⟩ := setL_go T (l := l) (fun z hz => hl z (by simp [hz])) ho hs
      refine ⟨g1, fun x => (g2 x).trans ?_⟩
      rw [List.mem_cons]
      constructor
      · rintro (h | h)
        · exact .inl h
        · exact .inr (.inr h)
      · rintro (h | rfl | h)
        · exact .inl h
        · exact .inl hm
        · exact .inr h
    · rw [if_neg hm]
      have hy := hl y (by simp)
      obtain ⟨g1, g2⟩ := setL_go T (l := l) (out := insL lt y out) (fun z hz => hl z (by simp [hz])) (fun z hz => by rcases insL_mem.1 hz with rfl | h; exact hy; exact ho z h) (insL_sorted T hy ho hs hm)
      refine ⟨g1, fun x => (g2 x).trans ?_⟩
      rw [insL_mem, List.mem_cons]
      constructor
      · rintro ((h | h) | h)
        · exact .inr (.inl h)
        · exact .inl h
        · exact .inr (.inr h)
      · rintro (h | h | h)
        · exact .inl (.inr h)
        · exact .inl (.inl h)
        · exact .inr h
theorem setL_ok {lt : α → α → Bool} {P : α → Prop} (T : Tot lt P) {l : List α} (hl : ∀ y ∈ l, P y) : (setL lt l).Pairwise (fun a b => lt a b = true) ∧ ∀ x, x ∈ setL lt l ↔ x ∈ l := by
  obtain ⟨g1, g2⟩ := setL_go T (l := l) (out := []) hl (by simp) List.Pairwise.nil
  exact ⟨g1, fun x => (g2 x).trans (by simp)⟩
theorem setL_same {lt : α → α → Bool} {P : α → Prop} (T : Tot lt P) {l m : List α} (hl : ∀ y ∈ l, P y) (h : ∀ x, x ∈ l ↔ x ∈ m) : setL lt l = setL lt m := by
  have h1 := setL_ok T hl
  have h2 := setL_ok T (l := m) (fun y hy => hl y ((h y).2 hy))
  exact sorted_uniq T (fun y hy => hl y ((h1.2 y).1 hy)) h1.1 h2.1 (fun x => ((h1.2 x).trans (h x)).trans (h2.2 x).symm)
theorem setL_len {lt : α → α → Bool} : ∀ {l out : List α}, (l.foldl (fun out x => if x ∈ out then out else insL lt x out) out).length ≤ out.length + l.length
  | [], out => by simp
  | y :: l, out => by
    rw [List.foldl_cons]
    have h0 : ∀ l : List α, (insL lt y l).length = l.length + 1 := by
      intro l
      induction l with
      | nil => rfl
      | cons z l ih => unfold insL; split <;> simp [ih]
    split
    · have := setL_len (lt := lt) (l := l) (out := out); simp; omega
    · have := setL_len (lt := lt) (l := l) (out := insL lt y out); rw [h0] at this; simp; omega
/-- equal neighbours once -/
def compL : List α → List α
  | [] => []
  | [x] => [x]
  | x :: y :: l => if x = y then compL (y :: l) else x :: compL (y :: l)
theorem compL_mem {z : α} : ∀ {l : List α}, z ∈ compL l ↔ z ∈ l
  | [] => Iff.rfl
  | [x] => Iff.rfl
  | x :: y :: l => by
    unfold compL
    split
    · rename_i e
      rw [compL_mem (l := y :: l)]
      subst e; simp
    · rw [List.mem_cons, compL_mem (l := y :: l), List.mem_cons (a := z) (b := x)]
theorem compL_sorted {lt : α → α → Bool} {P : α → Prop} (T : Tot lt P) : ∀ {l : List α}, (∀ y ∈ l, P y) → l.Pairwise (fun a b => lt b a = false) → (compL l).Pairwise (fun a b => lt a b = true)
  | [], _, _ => List.Pairwise.nil
  | [x], _, _ => List.pairwise_singleton _ _
  | x :: y :: l, hP, hs => by
    have h1 := List.pairwise_cons.1 hs
    have ih := compL_sorted T (l := y :: l) (fun z hz => hP z (by simp [hz])) h1.2
    unfold compL
    split
    · exact ih
    · rename_i hne
      rw [List.pairwise_cons]
      refine ⟨fun z hz => ?_, ih⟩
      have hz' := compL_mem.1 hz
      have hxy : lt x y = true := by
        rcases T.tri x y (hP x (by simp)) (hP y (by simp)) with h | h | h
        · exact h
        · exact absurd h hne
        · rw [h1.1 y (by simp)] at h; cases h
      rcases List.mem_cons.1 hz' with rfl | hz2
      · exact hxy
      · rcases T.tri x z (hP x (by simp)) (hP z (by simp [hz2])) with h | h | h
        · exact h
        · subst h
          have := (List.pairwise_cons.1 h1.2).1 x hz2
          rw [hxy] at this; cases this
        · rw [h1.1 z hz'] at h; cases h
/-- sorted, equal ones once: the set in order -/
theorem comp_set {lt : α → α → Bool} {P : α → Prop} (T : Tot lt P) {l m : List α} (hl : ∀ y ∈ l, P y) (hs : m.Pairwise (fun a b => lt b a = false)) (h : ∀ x, x ∈ l ↔ x ∈ m) : compL m = setL lt l := by
  have h1 := setL_ok T hl
  have hm : ∀ y ∈ m, P y := fun y hy => hl y ((h y).2 hy)
  exact sorted_uniq T (fun y hy => hm y (compL_mem.1 hy)) (compL_sorted T hm hs) h1.1 (fun x => (compL_mem.trans (h x).symm).trans (h1.2 x).symm)
end

end Go.Proofs.YtleknidlgmmgbaaGreat
