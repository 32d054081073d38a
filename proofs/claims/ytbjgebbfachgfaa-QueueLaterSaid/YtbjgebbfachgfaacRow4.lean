/- Arguments: how many bytes the slices of a work take; a further job or fault. -/
import Derived.SizedLaws
import Derived.Test.YtbjgebbfachgfaacRow3
set_option linter.unusedVariables false
set_option linter.unusedSimpArgs false
set_option linter.unusedSectionVars false
set_option linter.all false
namespace Go.Proofs.Ytbjgebbfachgfaa
open Go.ChangeShapes Go.WideShapes Go.ChangeAt Go.RowKit Go.Deep

section
variable {H : Type} {enc : TypeId × Value → H} {w : World} {spare : Nat → Bool} {n : Nat}

theorem slice_sized {P : Program} {t e : TypeId} {fuel : Nat} {a : Option Addr} {len cap : Nat} {x : DataW H × List MemPlace} (ht : P.underlying t = some (.slice e)) (h : DataW.trod enc P w 0 spare true fuel t [.slice a len cap] = some x)
    (hw : ∀ n ∈ x.1.weights P t, n ≤ reachBytes) : len * P.bytesOf e ≤ reachBytes := by
  rcases open_slice ht h with ⟨h1, _⟩ | ⟨a', len', cap', m', n', D, Pl, h1, _, _, _, _, rfl, _⟩
  · cases h1; simp
  · cases h1
    have := hw ((((List.range len).map D).length + ((List.range (m' - len)).map fun j => D (len + j)).length) * P.bytesOf e) (by simp [DataW.weights, ht])
    simp only [List.length_map, List.length_range] at this
    exact Nat.le_trans (Nat.mul_le_mul_right _ (Nat.le_add_right _ _)) this

set_option maxRecDepth 100000 in
theorem work_sized {d : DataW H} {p : List MemPlace} {W : Work} {aj af : Option Addr} {cj cf : Nat} (h : DataW.Trod enc Try.prog w 0 spare true 27 (.agg #[.int .i64 W.rules.slice, .int .i64 W.rules.load, .int .i64 W.rules.dump, .int .i64 W.rules.patience, .int .i64 W.rules.rate, .slice aj W.jobs.length cj, .slice af W.faults.length cf]) d p) (hw : ∀ n ∈ d.weights Try.prog 27, n ≤ reachBytes) :
    W.jobs.length * 40 ≤ 140737488351232 ∧ W.faults.length * 16 ≤ 140737488351232 := by
  obtain ⟨fuel, hf0⟩ := h
  obtain ⟨xs, n', _, hxe, _, hx, hf⟩ := DataW.trod_struct Try.underlying27 hf0
  have hxl : xs.length = 3 := hx.trans (by rfl)
  simp only [Prod.mk.injEq] at hxe
  obtain ⟨rfl, _⟩ := hxe
  have ec : Try.prog.cellsOf 23 = 5 := by kernel_rfl
  have ej : Try.prog.cellsOf 24 = 1 := by kernel_rfl
  have ef : Try.prog.cellsOf 25 = 1 := by kernel_rfl
  match xs, hxl with
  | [x0, x1, x2], _ =>
    have h1 := hf 1 _ rfl
    have h2 := hf 2 _ rfl
    simp [Value.cells, ec, ej, ef] at h1 h2
    have e : DataW.weights Try.prog 27 (.agg [x0.1, x1.1, x2.1]) = DataW.weightsEach Try.prog [23, 24, 25] [x0.1, x1.1, x2.1] := by
      simp [DataW.weights, Try.underlying27]
    have hw' : ∀ n ∈ DataW.weightsEach Try.prog [23, 24, 25] [x0.1, x1.1, x2.1], n ≤ reachBytes := by
      intro n hn; rw [← e] at hn; exact hw n hn
    have a1 := slice_sized Try.underlying24 h1 (fun n hn => hw' n (DataW.weights_mem_each (j := 1) rfl rfl n hn))
    have a2 := slice_sized Try.underlying25 h2 (fun n hn => hw' n (DataW.weights_mem_each (j := 2) rfl rfl n hn))
    rw [show Try.prog.bytesOf 56 = 40 by kernel_rfl] at a1
    rw [show Try.prog.bytesOf 63 = 16 by kernel_rfl] at a2
    exact ⟨a1, a2⟩

set_option maxRecDepth 100000 in
theorem open_more {base : Nat} {v : Value} {d : DataW H} {p : List MemPlace} (hv : Value.okWide Try.prog w .any base 80 v) (h : DataW.Trod enc Try.prog w 0 spare true 80 v d p) :
    ∃ (J : Job) (F : Fault) (b : Bool), v = .agg #[.string J.name, .int .i64 J.arrive, .int .i64 J.claim, .int .i64 J.needs, .int .i64 F.at0, .int .i64 F.rep, .bool b] ∧ J.name.size ≤ maxLen := by
  obtain ⟨cs0, rfl, hsz⟩ := okWide_struct Try.underlying80 hv
  obtain ⟨cs⟩ := cs0
  have hl : cs.length = 7 := hsz.trans (by kernel_rfl)
  obtain ⟨fuel, hf0⟩ := h
  obtain ⟨xs, n', _, hxe, _, hx, hf⟩ := DataW.trod_struct Try.underlying80 hf0
  have hxl : xs.length = 3 := hx.trans (by rfl)
  have ec : Try.prog.cellsOf 56 = 4 := by kernel_rfl
  have ej : Try.prog.cellsOf 63 = 2 := by kernel_rfl
  have ef : Try.prog.cellsOf 4 = 1 := by kernel_rfl
  match cs, hl, xs, hxl with
  | [c0, c1, c2, c3, c4, c5, c6], _, [x0, x1, x2], _ =>
    have h0 := hf 0 _ rfl
    have h1 := hf 1 _ rfl
    have h2 := hf 2 _ rfl
    simp [Value.cells, ec, ej, ef] at h0 h1 h2
    obtain ⟨j, hj, hn⟩ := open_job h0
    obtain ⟨f, hff⟩ := open_fault h1
    obtain ⟨b, hb, _⟩ := DataW.trod_bool Try.underlying4 h2
    simp [Job.cs, Fault.cs] at hj hff hb
    obtain ⟨rfl, rfl, rfl, rfl⟩ := hj
    obtain ⟨rfl, rfl⟩ := hff
    subst hb
    exact ⟨j, f, b, rfl, hn⟩
end

end Go.Proofs.Ytbjgebbfachgfaa
