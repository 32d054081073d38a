/- Slices of checks. -/
import Derived.Test.YtndcmmghgljinaaW12
set_option linter.all false
namespace Go.Proofs.Ytndcmmghgljinaa
open Go.RowKit


theorem Rd.firstN {α : Type} {f : α → List Value} {m : Nat} {w : World} {a : Option Addr} {l : List α} (h : Rd f m w a l) (k : Nat) : Rd f m w a (l.take k) := by
  rcases h with h | ⟨b, off, ha, hlt, hc⟩
  · exact .inl (by simp [h])
  · exact .inr ⟨b, off, ha, hlt, fun i x hi j v hj => hc i x (by
      rw [List.getElem?_take] at hi
      split at hi
      · exact hi
      · cases hi) j v hj⟩
theorem ck_from (a : Option Addr) (len cap k : Nat) (hk : k ≤ len) (hc : len ≤ cap) : ∃ ad cd, (∀ w, (Instr.sliceAt 33 (.slice a len cap) (some (.int .i64 (k : Int))) none none).run Try.prog w = .ok (.slice ad (len - k) cd) w) ∧
    ∀ (w : World) (l : List MCk), l.length = len → RdCks w a l → RdCks w ad (l.drop k) := by
  have hu := Try.underlying33; refine ⟨if cap = k then a else a.map (·.add (k * 3)), cap - k, fun w => ?_, ?_⟩
  · have h0 : (0 : Int) ≤ (k : Int) := by omega
    have h1 : (k : Int) ≤ (len : Int) := by omega
    go_simp
  · intro w l hl h
    by_cases hd : l.drop k = []
    · exact .inl hd
    · have hlt : k < len := by
        rcases Nat.lt_or_ge k len with h | h
        · exact h
        · exact absurd (List.drop_eq_nil_of_le (by omega)) hd
      rw [if_neg (by omega)]
      rcases h with h | ⟨b, off, ha, hlt', hc'⟩
      · rw [h] at hd; simp at hd
      · subst ha
        refine .inr ⟨b, off + k * 3, by simp [Addr.add], hlt', fun i x hi j v hj => ?_⟩; have := hc' (k + i) x (by rw [List.getElem?_drop] at hi; exact hi) j v hj; rw [show off + k * 3 + i * 3 + j = off + (k + i) * 3 + j by omega]; exact this
theorem RdCks.at0 {w : World} {b off : Nat} {l : List MCk} {y : MCk} (h : RdCks w (some ⟨b, off, none⟩) l) (hl : 0 < l.length) (hy : l[0] = y) :
    b < w.heap.size ∧ w.cell? ⟨b, off, none⟩ = some (.int .i64 y.hour) ∧ w.cell? ⟨b, off + 1, none⟩ = some (.int .i64 y.volt) ∧ w.cell? ⟨b, off + 2, none⟩ = some (.bool y.passed) := by
  subst hy; obtain ⟨hb, hc⟩ := Rd.get h hl; refine ⟨hb, ?_, ?_, ?_⟩
  · have := hc 0 _ rfl; simpa using this
  · have := hc 1 _ rfl; simpa using this
  · have := hc 2 _ rfl; simpa using this
/-- the n-th of l things, by turns -/
theorem turn_nat {x : Int} {l : Nat} (hx : 0 ≤ x) (hb : x ≤ 4294967295) (hl : 0 < l) : ∃ n : Nat, x.tmod (l : Int) = (n : Int) ∧ n < l ∧ IntKind.i64.wrap (n : Int) = (n : Int) := by
  obtain ⟨y, rfl⟩ := Int.eq_ofNat_of_zero_le hx; have hm : y % l < l := Nat.mod_lt _ hl; have hm2 : y % l ≤ y := Nat.mod_le _ _; exact ⟨y % l, (Int.ofNat_tmod _ _).symm, hm, IntWalk.i64_in _ (by omega)⟩

end Go.Proofs.Ytndcmmghgljinaa
