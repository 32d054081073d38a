/- Seals: one word that is another one makes another seal. -/
import Derived.Test.YtleknidlgmmgbaaGreattbT4
set_option linter.all false
namespace Go.Proofs.YtleknidlgmmgbaaGreat

theorem seal_step {a b w : Int} (h : ((a * 1009 + w) % 16777259) % 16777259 = ((b * 1009 + w) % 16777259) % 16777259) : a % 16777259 = b % 16777259 := by
  rw [Int.emod_emod, Int.emod_emod] at h
  have h1 := Int.emod_eq_emod_iff_emod_sub_eq_zero.1 h
  rw [show a * 1009 + w - (b * 1009 + w) = 1009 * (a - b) by omega] at h1
  have h3 : (9178441 * (1009 * (a - b))) % 16777259 = 0 := by rw [Int.mul_emod, h1]; simp
  rw [show (9178441 : Int) * (1009 * (a - b)) = (a - b) + 16777259 * (552 * (a - b)) by omega, Int.add_mul_emod_self_left] at h3
  exact Int.emod_eq_emod_iff_emod_sub_eq_zero.2 h3
theorem seal_back {a b : Int} : ∀ {l : List Int}, sealF a l % 16777259 = sealF b l % 16777259 → a % 16777259 = b % 16777259
  | [], h => h
  | w :: l, h => seal_step (w := w) (seal_back (l := l) h)
theorem seal_word {n x y : Int} {l1 l2 : List Int} (hx : 0 ≤ x ∧ x ≤ 16777215) (hy : 0 ≤ y ∧ y ≤ 16777215) (h : sealF n (l1 ++ x :: l2) = sealF n (l1 ++ y :: l2)) : x = y := by
  unfold sealF at h
  rw [List.foldl_append, List.foldl_append, List.foldl_cons, List.foldl_cons] at h
  have h1 := seal_back (l := l2) (show sealF _ l2 % 16777259 = sealF _ l2 % 16777259 from congrArg (· % 16777259) h)
  omega
theorem seal_bd {n : Int} : ∀ {l : List Int}, l ≠ [] → 0 ≤ sealF n l ∧ sealF n l < 16777259
  | [w], _ => by show 0 ≤ (n * 1009 + w) % 16777259 ∧ (n * 1009 + w) % 16777259 < 16777259; exact ⟨Int.emod_nonneg _ (by decide), Int.emod_lt_of_pos _ (by decide)⟩
  | w :: v :: l, _ => by
    show 0 ≤ sealF ((n * 1009 + w) % 16777259) (v :: l) ∧ sealF ((n * 1009 + w) % 16777259) (v :: l) < 16777259
    exact seal_bd (by simp)
theorem sealI_bd (s : St4) : 0 ≤ sealI' s ∧ sealI' s < 16777259 := seal_bd (by unfold sealL; simp)
theorem law_seal {s : St4} (h : OkI s) {k : Nat} (hk : k < 128) {v : Int} (hv : 0 ≤ v ∧ v ≤ 16777215) (hne : s.store.getD k 0 ≠ v) : OkI { s with store := s.store.set k v } ∧ sealI' { s with store := s.store.set k v } ≠ sealI' s := by
  have hl := h.l0
  refine ⟨⟨by show (s.store.set k v).length = 128; rw [List.length_set]; exact hl, h.l1, h.l2, set_in h.w0 hv, h.w1, h.w2, h.tk, h.tm, h.pc, h.dn, h.wy, h.al⟩, fun e => hne ?_⟩
  have hk' : k < s.store.length := by omega
  have e1 : s.store = s.store.take k ++ s.store.getD k 0 :: s.store.drop (k + 1) := by
    rw [List.getD_eq_getElem?_getD, List.getElem?_eq_getElem hk']
    show _ = _ ++ s.store[k] :: _
    rw [← List.drop_eq_getElem_cons hk', List.take_append_drop]
  have e2 : s.store.set k v = s.store.take k ++ v :: s.store.drop (k + 1) := by
    rw [List.set_eq_take_append_cons_drop, if_pos hk']
  unfold sealI' sealL at e
  simp only at e
  rw [e2] at e
  have e3 : sealF s.pc (s.store.take k ++ v :: (s.store.drop (k + 1) ++ [s.taken, (s.printed.length : Int)] ++ s.printed ++ [s.why])) = sealF s.pc (s.store.take k ++ s.store.getD k 0 :: (s.store.drop (k + 1) ++ [s.taken, (s.printed.length : Int)] ++ s.printed ++ [s.why])) := by
    have e4 := e
    rw [show s.store ++ [s.taken, (s.printed.length : Int)] ++ s.printed ++ [s.why] = (s.store.take k ++ s.store.getD k 0 :: s.store.drop (k + 1)) ++ [s.taken, (s.printed.length : Int)] ++ s.printed ++ [s.why] by rw [← e1]] at e4
    simpa [List.append_assoc] using e4
  exact (seal_word hv (h.w0 _ (getD_in hk')) e3).symm
theorem law_sealA {s : St4} (h : OkI s) {p : Int} (hp : 0 ≤ p ∧ p ≤ 127) (ha : p % 16 = s.pc % 16) (hne : p ≠ s.pc) : OkI { s with pc := p } ∧ sealI' { s with pc := p } ≠ sealI' s := by
  refine ⟨⟨h.l0, h.l1, h.l2, h.w0, h.w1, h.w2, h.tk, h.tm, hp, h.dn, h.wy, h.al.trans ha.symm⟩, fun e => hne ?_⟩
  have h1 := seal_back (a := p) (b := s.pc) (l := sealL s) (congrArg (· % 16777259) e)
  have := h.pc
  omega

end Go.Proofs.YtleknidlgmmgbaaGreat
