/- Texts of this proof, joined: Row Row2 Res W21 Pure4 W22. -/
import Derived.Deep.Slices
import Derived.Deep.Fields
import Derived.ProofKit
import Derived.OpenShut
import Derived.Carry
import Derived.ChangeSame
import Derived.ReadAgain
import Derived.Test.YtbjgebbfachgfaacW9
import Derived.Test.YtbjgebbfachgfaacJ2
import Derived.Test.YtbjgebbfachgfaacJ1
set_option linter.unusedVariables false
set_option linter.unusedSimpArgs false
set_option linter.unusedSectionVars false
set_option linter.all false
/- The rows' own step: arguments opened to the plain data, and read again behind a call that leaves old memory alone. -/
namespace Go.Proofs.Ytbjgebbfachgfaa
open Go.ChangeShapes Go.WideShapes Go.ChangeAt Go.RowKit Go.Deep

section
variable {H : Type} {enc : TypeId × Value → H} {P : Program} {w : World} {spare : Nat → Bool}

/-- a slice whose elements each read as some α with cells f -/
theorem open_rows {α : Type} [Inhabited α] {f : α → List Value} {m : Nat} {t e : TypeId} {ok : α → Prop} {fuel : Nat} {cs : List Value} {x : DataW H × List MemPlace} (ht : P.underlying t = some (.slice e)) (hC : P.cellsOf e = m)
    (hel : ∀ (n : Nat) (cs' : List Value) (z : DataW H × List MemPlace), cs'.length = m → DataW.trod enc P w 0 spare true n e cs' = some z → ∃ y : α, cs' = f y ∧ ok y) (hm : 0 < m) (h : DataW.trod enc P w 0 spare true fuel t cs = some x) (hlt : ∀ p ∈ x.2, p.block < w.heap.size) :
    ∃ a c, ∃ l : List α, cs = [.slice a l.length c] ∧ Rd f m w a l ∧ l.length ≤ maxLen ∧ ∀ y ∈ l, ok y := by
  rcases open_slice ht h with ⟨rfl, _⟩ | ⟨a, len, cap, m', n, D, Pl, rfl, _, hl, hcap, hm', rfl, hi⟩
  · exact ⟨none, 0, [], rfl, .inl rfl, Nat.zero_le _, fun y hy => by cases hy⟩
  · rw [hC] at hi
    have hle : len ≤ m' := by rw [hm']; split <;> omega
    have hex : ∀ i, i < len → ∃ y : α, (∀ j v, (f y)[j]? = some v → w.cell? (a.add (i * m + j)) = some v) ∧ (f y).length = m ∧ ok y := by
      intro i hilt
      obtain ⟨cs', hc, htr⟩ := hi i (by omega)
      obtain ⟨_, hlen, hcell⟩ := World.cells?_some hc
      obtain ⟨y, rfl, hok⟩ := hel n cs' _ hlen htr
      refine ⟨y, fun j v hv => ?_, hlen, hok⟩
      have hj : j < m := by
        rcases Nat.lt_or_ge j m with h | h
        · exact h
        · rw [List.getElem?_eq_none (by omega)] at hv; cases hv
      rw [← Go.Deep.add_add, hcell j hj, hv]
    obtain ⟨g, hg⟩ := choose_lt hex
    refine ⟨some a, cap, (List.range len).map g, by simp, ?_, by simp; omega, fun y hy => ?_⟩
    · by_cases h0 : len = 0
      · subst h0; exact .inl rfl
      · have h00 := hg 0 (by omega)
        obtain ⟨b, off, spot⟩ := a
        have hz : ∃ v, (f (g 0))[0]? = some v := ⟨_, List.getElem?_eq_getElem (by rw [h00.2.1]; exact hm)⟩
        obtain ⟨v0, hv0⟩ := hz
        have hc0 := h00.1 0 v0 hv0
        have hspot : spot = none := by simpa [Addr.add] using World.cell?_spot hc0
        subst hspot
        refine .inr ⟨b, off, rfl, ?_, fun i y hy j v hv => ?_⟩
        · have : MemPlace.cell b off ∈ MemPlace.row ⟨b, off, none⟩ (m' * P.cellsOf e) ++ (List.range m').flatMap Pl := by
            refine List.mem_append_left _ ?_
            have hpos : 0 < m' * P.cellsOf e := Nat.mul_pos (by omega) (by omega)
            simp only [MemPlace.row, List.mem_map, List.mem_range]
            exact ⟨0, hpos, by simp⟩
          exact hlt _ this
        · have hil : i < len := by
            rcases Nat.lt_or_ge i len with h | h
            · exact h
            · rw [List.getElem?_eq_none (by simpa using h)] at hy; cases hy
          rw [List.getElem?_eq_getElem (by simpa using hil)] at hy
          obtain rfl : g i = y := by simpa using hy
          have := (hg i hil).1 j v hv
          rw [Go.WideShapes.add_plain] at this
          rw [Nat.add_assoc]; exact this
    · obtain ⟨i, hi', rfl⟩ := List.mem_map.1 hy
      exact (hg i (by simpa using hi')).2.2
end

/-- THE POST of a law that leaves old memory alone. -/
theorem trodAll_below {H : Type} {enc : TypeId × Value → H} {P : Program} {W W' : World} (hl : laidOutB P = true) (hb : Below W.heap.size W W') {sp : Nat → Bool} : ∀ {ts : List TypeId} {vs : List Value} {ds : List (DataW H)} {ps : List MemPlace},
    (∀ t ∈ ts, P.readableRec t = true ∧ t < P.types.size) → DataW.TrodAll enc P W 0 (fun _ => true) true ts vs ds ps → (∀ p ∈ ps, p.block < W.heap.size) → (∀ p ∈ ps, sp p.block = true) → DataW.TrodAll enc P W' 0 sp true ts vs ds ps
  | [], [], [], _, _, h, _, _ => h
  | _ :: _, _ :: _, _ :: _, _, hT, ⟨p, q, h1, h2, e⟩, hlt, hs => by
    subst e
    refine ⟨p, q, WideElems.Trod_stays hl (hT _ (by simp)).1 (hT _ (by simp)).2 h1 (fun x hx => hb.same (hlt x (by simp [hx]))) (fun x hx => hs x (by simp [hx])), trodAll_below hl hb (fun t ht => hT t (by simp [ht])) h2 (fun x hx => hlt x (by simp [hx])) (fun x hx => hs x (by simp [hx])), rfl⟩

theorem post_law {H : Type} {enc : TypeId × Value → H} {P : Program} {f : Func} {s : ChangeSpec} {apart : Bool} {W W' : World} {args : Array Value} {ds : List (DataW H)} {before : List MemPlace} {tb : TypeId}
    (hl : laidOutB P = true) (hr : ∀ t ∈ f.params.toList, P.readableRec t = true ∧ t < P.types.size) (hres : f.resultTypes = #[tb]) (hbool : P.underlying tb = some .bool)
    (hW : DataW.Whole enc P f.params.toList s.vars apart W args.toList ds [] before) (hvs : s.vars = []) (hfn : s.fn H ds = { results := [.lit (.bool true)], args := ds }) (hb : Below W.heap.size W W') :
    s.post enc P f apart true false false W args (.bool true) W' := by
  have hlt : ∀ p ∈ before, p.block < W.heap.size := fun p hp => hW.lt p hp
  have hfn' : s.fn H (ds ++ []) = { results := [.lit (.bool true)], args := ds } := by rw [List.append_nil]; exact hfn
  have hW0 := hW
  obtain ⟨pa, pv, hA, hV, hps, hz, hn⟩ := hW
  rw [hvs] at hV
  obtain ⟨_, rfl⟩ := trodVars_none hV
  simp only [List.append_nil] at hps
  subst hps
  have hargs : ∀ sp : Nat → Bool, (∀ p ∈ before, sp p.block = true) → DataW.TrodAll enc P W' 0 sp true f.params.toList args.toList ds before := fun sp hsp => trodAll_below hl hb hr hA hlt hsp
  have hresl : ∀ (b : Nat) (sp : Nat → Bool) (hd : Bool), DataW.TrodAll enc P W' b sp hd f.resultTypes.toList ((Value.bool true).resultList f.resultTypes.size) [.lit (.bool true)] [] := by
    intro b sp hd
    rw [hres]
    exact trodAll_mk1 (shut_bool hbool true)
  have hok : ∀ (j : Nat) (t : TypeId) (r : Value), f.resultTypes[j]? = some t → ((Value.bool true).resultList f.resultTypes.size)[j]? = some r → Value.okWide P W' .any 0 t r := ok_one hres rfl (okWide_bool_mk hbool true)
  have hargs' : ∀ sp : Nat → Bool, (∀ p ∈ before, sp p.block = true) → DataW.TrodAll enc P W' 0 sp true f.params.toList args.toList (s.fn H (ds ++ [])).args before := by rw [hfn']; exact hargs
  have hresl' : ∀ (b : Nat) (sp : Nat → Bool) (hd : Bool), DataW.TrodAll enc P W' b sp hd f.resultTypes.toList ((Value.bool true).resultList f.resultTypes.size) (s.fn H (ds ++ [])).results [] := by rw [hfn']; exact hresl
  have hvars' : ∀ sp : Nat → Bool, DataW.TrodVars enc P W' sp s.vars (s.fn H (ds ++ [])).vars [] := by rw [hfn', hvs]; exact fun _ => rfl
  refine ⟨ds, [], before, [], before, [], hW0, hresl' _ _ _, hargs' _ (fun p hp => by simpa using hlt p hp), hvars' _, World.keptBut_mono (fun p hp => ⟨hp, by simpa using hp⟩) (hb.frame (· ∈ before)), fun _ => ?_⟩
  · refine ⟨hok, _, _, ([] ++ before) ++ [], ⟨[] ++ before, [], trodAll_append (hargs' _ (fun _ _ => rfl)) (hresl' _ _ _), hvars' _, rfl, ?_, ?_⟩, ?_⟩
    · intro b off hp
      have hin : MemPlace.cell b off ∈ before := by simpa using hp
      rw [hb.frozen (hlt _ hin)]
      exact hz b off hin
    · intro ha
      have := hn ha
      simpa using this
    · intro p hp _
      simpa using hp

/- this program -/
theorem own : ownKnob Try.prog.godebug = none := by kernel_rfl
theorem laidOut : laidOutB Try.prog = true := by kernel_rfl

end Go.Proofs.Ytbjgebbfachgfaa
/- Arguments of the queue's laws, opened. -/
namespace Go.Proofs.Ytbjgebbfachgfaa
open Go.ChangeShapes Go.WideShapes Go.ChangeAt Go.RowKit Go.Deep

section
variable {H : Type} {enc : TypeId × Value → H} {w : World} {spare : Nat → Bool} {n : Nat}

theorem fld_int {i : Nat} {xs : List (DataW H × List MemPlace)} {l : List Value} (hf : DataW.trod enc Try.prog w 0 spare true n 3 l = xs[i]?) (hi : i < xs.length) : ∃ k, l = [.int .i64 k] := by
  rw [List.getElem?_eq_getElem hi] at hf
  obtain ⟨k, hk, _⟩ := DataW.trod_int Try.underlying3 hf
  exact ⟨k, hk⟩
theorem fld_str {i : Nat} {xs : List (DataW H × List MemPlace)} {l : List Value} (hf : DataW.trod enc Try.prog w 0 spare true n 9 l = xs[i]?) (hi : i < xs.length) : ∃ k, l = [.string k] ∧ k.size ≤ maxLen := by
  rw [List.getElem?_eq_getElem hi] at hf
  obtain ⟨k, hk, _, h⟩ := DataW.trod_string Try.underlying9 hf
  exact ⟨k, hk, h⟩

set_option maxRecDepth 100000 in
theorem open_rules {cs : List Value} {x : DataW H × List MemPlace} (h : DataW.trod enc Try.prog w 0 spare true n 23 cs = some x) : ∃ r : Rules, cs = [.int .i64 r.slice, .int .i64 r.load, .int .i64 r.dump, .int .i64 r.patience, .int .i64 r.rate] := by
  obtain ⟨xs, n', _, _, hlen, hx, hf⟩ := DataW.trod_struct Try.underlying23 h
  have hl : cs.length = 5 := hlen.trans (by kernel_rfl)
  have hxl : xs.length = 5 := hx.trans (by rfl)
  match cs, hl with
  | [c0, c1, c2, c3, c4], _ =>
    obtain ⟨a, ha⟩ := fld_int (hf 0 _ rfl) (by omega)
    obtain ⟨b, hb⟩ := fld_int (hf 1 _ rfl) (by omega)
    obtain ⟨c, hc⟩ := fld_int (hf 2 _ rfl) (by omega)
    obtain ⟨d, hd⟩ := fld_int (hf 3 _ rfl) (by omega)
    obtain ⟨e, he⟩ := fld_int (hf 4 _ rfl) (by omega)
    refine ⟨⟨a, b, c, d, e⟩, ?_⟩
    have ec : Try.prog.cellsOf 3 = 1 := by kernel_rfl
    simp [ec] at ha hb hc hd he
    subst ha hb hc hd he
    rfl
set_option maxRecDepth 100000 in
theorem open_job {cs : List Value} {x : DataW H × List MemPlace} (h : DataW.trod enc Try.prog w 0 spare true n 56 cs = some x) : ∃ j : Job, cs = Job.cs j ∧ j.name.size ≤ maxLen := by
  obtain ⟨xs, n', _, _, hlen, hx, hf⟩ := DataW.trod_struct Try.underlying56 h
  have hl : cs.length = 4 := hlen.trans (by kernel_rfl)
  have hxl : xs.length = 4 := hx.trans (by rfl)
  match cs, hl with
  | [c0, c1, c2, c3], _ =>
    obtain ⟨a, ha, hs⟩ := fld_str (hf 0 _ rfl) (by omega)
    obtain ⟨b, hb⟩ := fld_int (hf 1 _ rfl) (by omega)
    obtain ⟨c, hc⟩ := fld_int (hf 2 _ rfl) (by omega)
    obtain ⟨d, hd⟩ := fld_int (hf 3 _ rfl) (by omega)
    refine ⟨⟨a, b, c, d⟩, ?_, hs⟩
    have ec : Try.prog.cellsOf 3 = 1 := by kernel_rfl
    have es : Try.prog.cellsOf 9 = 1 := by kernel_rfl
    simp [ec, es] at ha hb hc hd
    subst ha hb hc hd
    rfl
set_option maxRecDepth 100000 in
theorem open_fault {cs : List Value} {x : DataW H × List MemPlace} (h : DataW.trod enc Try.prog w 0 spare true n 63 cs = some x) : ∃ f : Fault, cs = Fault.cs f := by
  obtain ⟨xs, n', _, _, hlen, hx, hf⟩ := DataW.trod_struct Try.underlying63 h
  have hl : cs.length = 2 := hlen.trans (by kernel_rfl)
  have hxl : xs.length = 2 := hx.trans (by rfl)
  match cs, hl with
  | [c0, c1], _ =>
    obtain ⟨a, ha⟩ := fld_int (hf 0 _ rfl) (by omega)
    obtain ⟨b, hb⟩ := fld_int (hf 1 _ rfl) (by omega)
    refine ⟨⟨a, b⟩, ?_⟩
    have ec : Try.prog.cellsOf 3 = 1 := by kernel_rfl
    simp [ec] at ha hb
    subst ha hb
    rfl
set_option maxRecDepth 100000 in
theorem open_st {cs : List Value} {x : DataW H × List MemPlace} (h : DataW.trod enc Try.prog w 0 spare true n 70 cs = some x) : ∃ f : St, cs = St.cs f := by
  obtain ⟨xs, n', _, _, hlen, hx, hf⟩ := DataW.trod_struct Try.underlying70 h
  have hl : cs.length = 5 := hlen.trans (by kernel_rfl)
  have hxl : xs.length = 5 := hx.trans (by rfl)
  match cs, hl with
  | [c0, c1, c2, c3, c4], _ =>
    obtain ⟨a, ha⟩ := fld_int (hf 0 _ rfl) (by omega)
    obtain ⟨b, hb⟩ := fld_int (hf 1 _ rfl) (by omega)
    obtain ⟨c, hc⟩ := fld_int (hf 2 _ rfl) (by omega)
    obtain ⟨d, hd⟩ := fld_int (hf 3 _ rfl) (by omega)
    obtain ⟨e, he⟩ := fld_int (hf 4 _ rfl) (by omega)
    refine ⟨⟨a, b, c, d, e⟩, ?_⟩
    have ec : Try.prog.cellsOf 3 = 1 := by kernel_rfl
    simp [ec] at ha hb hc hd he
    subst ha hb hc hd he
    rfl

instance : Inhabited Job := ⟨Job.zero⟩
instance : Inhabited Fault := ⟨Fault.zero⟩
instance : Inhabited St := ⟨St.zero⟩

set_option maxRecDepth 100000 in
theorem open_work {base : Nat} {v : Value} {d : DataW H} {p : List MemPlace} (hv : Value.okWide Try.prog w .any base 27 v) (h : DataW.Trod enc Try.prog w 0 spare true 27 v d p) (hlt : ∀ x ∈ p, x.block < w.heap.size) :
    ∃ (W : Work) (aj af : Option Addr) (cj cf : Nat), v = .agg #[.int .i64 W.rules.slice, .int .i64 W.rules.load, .int .i64 W.rules.dump, .int .i64 W.rules.patience, .int .i64 W.rules.rate, .slice aj W.jobs.length cj, .slice af W.faults.length cf] ∧ WorkIn w W aj af := by
  obtain ⟨cs0, rfl, hsz⟩ := okWide_struct Try.underlying27 hv
  obtain ⟨cs⟩ := cs0
  have hl : cs.length = 7 := hsz.trans (by kernel_rfl)
  obtain ⟨fuel, hf0⟩ := h
  obtain ⟨xs, n', _, hxe, _, hx, hf⟩ := DataW.trod_struct Try.underlying27 hf0
  have hxl : xs.length = 3 := hx.trans (by rfl)
  simp only [Prod.mk.injEq] at hxe
  have ec : Try.prog.cellsOf 23 = 5 := by kernel_rfl
  have ej : Try.prog.cellsOf 24 = 1 := by kernel_rfl
  have ef : Try.prog.cellsOf 25 = 1 := by kernel_rfl
  match cs, hl, xs, hxl with
  | [c0, c1, c2, c3, c4, c5, c6], _, [x0, x1, x2], _ =>
    have h0 := hf 0 _ rfl
    have h1 := hf 1 _ rfl
    have h2 := hf 2 _ rfl
    simp [Value.cells, ec, ej, ef] at h0 h1 h2
    obtain ⟨r, hr⟩ := open_rules h0
    obtain ⟨aj, cj, lj, hj, rj, nj, okj⟩ := open_rows (f := Job.cs) (m := 4) (ok := fun j : Job => j.name.size ≤ maxLen) Try.underlying24 (by kernel_rfl) (fun n cs' z _ hz => open_job hz) (by decide) h1 (fun q hq => hlt q (by rw [hxe.2]; simp [hq]))
    obtain ⟨af, cf, lf, hfl, rf, nf, _⟩ := open_rows (f := Fault.cs) (m := 2) (ok := fun _ : Fault => True) Try.underlying25 (by kernel_rfl) (fun n cs' z _ hz => (open_fault hz).imp fun _ e => ⟨e, trivial⟩) (by decide) h2 (fun q hq => hlt q (by rw [hxe.2]; simp [hq]))
    simp at hr hj hfl
    obtain ⟨rfl, rfl, rfl, rfl, rfl⟩ := hr
    subst hj hfl
    unfold maxLen at nj nf okj
    exact ⟨⟨r, lj, lf⟩, aj, af, cj, cf, rfl, rj, rf, by show lj.length ≤ _; omega, by show lf.length ≤ _; omega, fun i hi => by have := okj _ (List.getElem_mem hi); show (lj[i]'hi).name.size ≤ _; omega⟩
set_option maxRecDepth 100000 in
theorem open_queue {base : Nat} {v : Value} {d : DataW H} {p : List MemPlace} (hv : Value.okWide Try.prog w .any base 33 v) (h : DataW.Trod enc Try.prog w 0 spare true 33 v d p) (hlt : ∀ x ∈ p, x.block < w.heap.size) :
    ∃ (q : Qu) (aq : Option Addr) (cq : Nat), v = .agg #[.int .i64 q.now, .slice aq q.jobs.length cq] ∧ RdSts w aq q.jobs ∧ q.jobs.length ≤ 9223372036854775807 := by
  obtain ⟨cs0, rfl, hsz⟩ := okWide_struct Try.underlying33 hv
  obtain ⟨cs⟩ := cs0
  have hl : cs.length = 2 := hsz.trans (by kernel_rfl)
  obtain ⟨fuel, hf0⟩ := h
  obtain ⟨xs, n', _, hxe, _, hx, hf⟩ := DataW.trod_struct Try.underlying33 hf0
  have hxl : xs.length = 2 := hx.trans (by rfl)
  simp only [Prod.mk.injEq] at hxe
  have ec : Try.prog.cellsOf 3 = 1 := by kernel_rfl
  have ej : Try.prog.cellsOf 31 = 1 := by kernel_rfl
  match cs, hl, xs, hxl with
  | [c0, c1], _, [x0, x1], _ =>
    have h0 := hf 0 _ rfl
    have h1 := hf 1 _ rfl
    simp [Value.cells, ec, ej] at h0 h1
    obtain ⟨k, hk, _⟩ := DataW.trod_int Try.underlying3 h0
    obtain ⟨a, c, l, hj, rj, nj, _⟩ := open_rows (f := St.cs) (m := 5) (ok := fun _ : St => True) Try.underlying31 (by kernel_rfl) (fun n cs' z _ hz => (open_st hz).imp fun _ e => ⟨e, trivial⟩) (by decide) h1 (fun q hq => hlt q (by rw [hxe.2]; simp [hq]))
    simp at hk hj
    subst hk hj
    unfold maxLen at nj
    exact ⟨⟨k, l⟩, a, c, rfl, rj, by show l.length ≤ _; omega⟩
end

end Go.Proofs.Ytbjgebbfachgfaa
/- What a function hands back, where its results lie in memory; a struct read whole. -/
namespace Go.Proofs.Ytbjgebbfachgfaa
open Go.RowKit

theorem res_c {P : Program} {fn : Func} {p : Tmp} {ty : TypeId} (h : fn.results = #[.cell p ty]) {tmps : Array Value} {w : World} {ad : Addr} {v : Value} (e : tmps.getD p undef = .pointer (some ad)) (l : (loadVar ty ad).run P w = .ok v w) :
    (results fn tmps).run P w = .ok v w := by
  simp only [Array.getD_eq_getD_getElem?] at *
  simp only [results, h]
  simp [Sem.run_bind, Result.andThen, e, asAddr, l]
theorem res_ct {P : Program} {fn : Func} {p u : Tmp} {ty : TypeId} (h : fn.results = #[.cell p ty, .tmp u]) {tmps : Array Value} {w : World} {ad : Addr} {v x : Value} (e : tmps.getD p undef = .pointer (some ad)) (l : (loadVar ty ad).run P w = .ok v w) (e2 : tmps.getD u undef = x) :
    (results fn tmps).run P w = .ok (.tuple #[v, x]) w := by
  simp only [Array.getD_eq_getD_getElem?] at *
  simp only [results, h]
  simp [Sem.run_bind, Result.andThen, e, asAddr, l, e2]
theorem res_cc {P : Program} {fn : Func} {p p2 : Tmp} {ty ty2 : TypeId} (h : fn.results = #[.cell p ty, .cell p2 ty2]) {tmps : Array Value} {w : World} {ad ad2 : Addr} {v v2 : Value} (e : tmps.getD p undef = .pointer (some ad)) (e2 : tmps.getD p2 undef = .pointer (some ad2))
    (l : (loadVar ty ad).run P w = .ok v w) (l2 : (loadVar ty2 ad2).run P w = .ok v2 w) : (results fn tmps).run P w = .ok (.tuple #[v, v2]) w := by
  simp only [Array.getD_eq_getD_getElem?] at *
  simp only [results, h]
  simp [Sem.run_bind, Result.andThen, e, asAddr, l, e2, l2]
theorem res_cct {P : Program} {fn : Func} {p p2 u : Tmp} {ty ty2 : TypeId} (h : fn.results = #[.cell p ty, .cell p2 ty2, .tmp u]) {tmps : Array Value} {w : World} {ad ad2 : Addr} {v v2 x : Value} (e : tmps.getD p undef = .pointer (some ad)) (e2 : tmps.getD p2 undef = .pointer (some ad2))
    (l : (loadVar ty ad).run P w = .ok v w) (l2 : (loadVar ty2 ad2).run P w = .ok v2 w) (e3 : tmps.getD u undef = x) : (results fn tmps).run P w = .ok (.tuple #[v, v2, x]) w := by
  simp only [Array.getD_eq_getD_getElem?] at *
  simp only [results, h]
  simp [Sem.run_bind, Result.andThen, e, asAddr, l, e2, l2, e3]
theorem res_tct {P : Program} {fn : Func} {u p u2 : Tmp} {ty : TypeId} (h : fn.results = #[.tmp u, .cell p ty, .tmp u2]) {tmps : Array Value} {w : World} {ad : Addr} {v x x2 : Value} (e0 : tmps.getD u undef = x) (e : tmps.getD p undef = .pointer (some ad))
    (l : (loadVar ty ad).run P w = .ok v w) (e2 : tmps.getD u2 undef = x2) : (results fn tmps).run P w = .ok (.tuple #[x, v, x2]) w := by
  simp only [Array.getD_eq_getD_getElem?] at *
  simp only [results, h]
  simp [Sem.run_bind, Result.andThen, e, asAddr, l, e2, e0]

theorem Own.setNe {α : Type} {f : α → List Value} {m : Nat} {T : TypeId} {base : Nat} {w : World} {g n cap : Nat} {l : List α} (h : Own f m T base w (.slice (some ⟨g, 0, none⟩) n cap) l) {a : Addr} (ha : a.block ≠ g) (u : Value) : Own f m T base (w.setCell a u) (.slice (some ⟨g, 0, none⟩) n cap) l :=
  h.kept fun g' hg => by cases hg; exact Below.heap_setCell w a u g (fun e => ha e.symm)
theorem Own.alloc {α : Type} {f : α → List Value} {m : Nat} {T : TypeId} {base : Nat} {w : World} {v : Value} {l : List α} (h : Own f m T base w v l) (o : Obj) : Own f m T base (w.alloc o) v l :=
  h.kept fun g hg => Below.heap_alloc w o g (World.ownsRow.lt h g hg).2
theorem Own.drew {α : Type} {f : α → List Value} {m : Nat} {T : TypeId} {base : Nat} {w : World} {v : Value} {l : List α} (h : Own f m T base w v l) : Own f m T base w.drew v l := h
theorem Own.drewN {α : Type} {f : α → List Value} {m : Nat} {T : TypeId} {base : Nat} {w : World} {v : Value} {l : List α} (h : Own f m T base w v l) (n : Nat) : Own f m T base (w.drewN n) v l := h

theorem load_spell {w : World} {b o : Nat} {x0 x1 x2 x3 : Value} (h0 : w.cell? ⟨b, o, none⟩ = some x0) (h1 : w.cell? ⟨b, o + 1, none⟩ = some x1) (h2 : w.cell? ⟨b, o + 2, none⟩ = some x2) (h3 : w.cell? ⟨b, o + 3, none⟩ = some x3) :
    (loadVar 40 ⟨b, o, none⟩).run Try.prog w = .ok (.agg #[x0, x1, x2, x3]) w := by
  simp [go_sem, h0, h1, h2, h3]
theorem load_qu {w : World} {b o : Nat} {x0 x1 : Value} (h0 : w.cell? ⟨b, o, none⟩ = some x0) (h1 : w.cell? ⟨b, o + 1, none⟩ = some x1) :
    (loadVar 33 ⟨b, o, none⟩).run Try.prog w = .ok (.agg #[x0, x1]) w := by
  simp [go_sem, h0, h1]

/-- a cell behind a store -/
theorem set_at {w : World} {a : Addr} {v u : Value} (h : w.cell? a = some v) (hs : a.spot = none) : (w.setCell a u).cell? a = some u := by
  obtain ⟨b, o, s⟩ := a
  simp at hs
  subst hs
  exact World.cell?_setCell_same' _ _ _ (by rw [h]; rfl)
theorem set_far {w : World} {b o b' o' : Nat} {u : Value} (h : b' ≠ b ∨ o' ≠ o) : (w.setCell ⟨b, o, none⟩ u).cell? ⟨b', o', none⟩ = w.cell? ⟨b', o', none⟩ := by
  apply World.cell?_setCell_other
  intro e
  cases e
  rcases h with h | h <;> exact h rfl

end Go.Proofs.Ytbjgebbfachgfaa
/- first, cmp.Or, slices.Compare. -/
namespace Go.Proofs.Ytbjgebbfachgfaa
open Go.RowKit

def firstStep (above : Int) (s : Int × Bool) (n : Int) : Int × Bool := if n ≤ above then s else if !s.2 || decide (n < s.1) then (n, true) else s
def firstOf (above : Int) (l : List Int) : Int × Bool := l.foldl (firstStep above) (0, false)
theorem firstOf_snoc {above : Int} {l : List Int} {k : Nat} (hk : k < l.length) : firstOf above (l.take (k + 1)) = firstStep above (firstOf above (l.take k)) l[k] := by
  unfold firstOf; rw [List.take_succ_eq_append_getElem hk, List.foldl_append]; rfl

set_option maxHeartbeats 1000000 in
theorem first_any (above : Int) (a : Option Addr) (c : Nat) (l : List Int) (w : World) (hl : l.length ≤ 9223372036854775807) (ha : RdInts w a l) :
    Calls Try.prog 74 #[.int .i64 above, .slice a l.length c] w fun e w' => e = .returned (.tuple #[.int .i64 (firstOf above l).1, .bool (firstOf above l).2]) ∧ w = w' := by
  go_enter Try.func74, Try.ntmps74
  go_wp2_with fail
  go_step3
  go_wp2_with fail
  go_step3
  go_wp2_with fail
  go_loop [6, 7, 12] (fun x y i => ∃ k : Nat, ∃ m : Int, ∃ b : Bool, k ≤ l.length ∧ i = .int .i64 k ∧ x = .int .i64 m ∧ y = .bool b ∧ Hid (firstOf above (l.take k) = (m, b))) (fun _ _ i => l.length - (intOf i).toNat)
  case atStart => exact ⟨0, 0, false, Nat.zero_le _, rfl, rfl, rfl, hid rfl⟩
  case round =>
    obtain ⟨k, m, b, hk, rfl, rfl, rfl, hm⟩ := hrel
    by_cases hlt : k < l.length
    · obtain ⟨bb, off, rfl, hb, h0⟩ := RdInts.ne ha hlt
      have Hs := hid (firstOf_snoc (above := above) hlt)
      rw [hm.out] at Hs
      by_cases h1 : l[k] ≤ above
      · have Hs2 := hid (show firstStep above (m, b) l[k] = (m, b) by simp [firstStep, h1])
        go_wp2_with fail
        go_round
        case rel => exact ⟨k + 1, m, b, by omega, by go_num, rfl, rfl, hid (by rw [Hs.out, Hs2.out])⟩
        case measure => simp [intOf]; omega
      · cases b
        · have Hs2 := hid (show firstStep above (m, false) l[k] = (l[k], true) by simp [firstStep, h1])
          go_wp2_with fail
          go_round
          case rel => exact ⟨k + 1, l[k], true, by omega, by go_num, rfl, rfl, hid (by rw [Hs.out, Hs2.out])⟩
          case measure => simp [intOf]; omega
        · by_cases h2 : l[k] < m
          · have Hs2 := hid (show firstStep above (m, true) l[k] = (l[k], true) by simp [firstStep, h1, h2])
            go_wp2_with fail
            go_round
            case rel => exact ⟨k + 1, l[k], true, by omega, by go_num, rfl, rfl, hid (by rw [Hs.out, Hs2.out])⟩
            case measure => simp [intOf]; omega
          · have Hs2 := hid (show firstStep above (m, true) l[k] = (m, true) by simp [firstStep, h1, h2])
            go_wp2_with fail
            go_round
            case rel => exact ⟨k + 1, m, true, by omega, by go_num, rfl, rfl, hid (by rw [Hs.out, Hs2.out])⟩
            case measure => simp [intOf]; omega
    · go_wp2_with fail
      (try rw [Exit.noGoto_ret])
      go_ret2
      have := hm.out
      rw [List.take_of_length_le (by omega)] at this
      exact ⟨by rw [this]; rfl, rfl⟩

def orOf (l : List Int) : Int := (l.find? fun n => n != 0).getD 0
set_option maxHeartbeats 1000000 in
theorem or_any (a : Option Addr) (c : Nat) (l : List Int) (w : World) (hl : l.length ≤ 9223372036854775807) (ha : RdInts w a l) :
    Calls Try.prog 78 #[.slice a l.length c] w fun e w' => e = .returned (.int .i64 (orOf l)) ∧ w = w' := by
  go_enter Try.func78, Try.ntmps78
  go_wp2_with fail
  go_loop [8] (fun i => ∃ k : Nat, k ≤ l.length ∧ i = .int .i64 k ∧ Hid ((l.take k).find? (fun n => n != 0) = none)) (fun i => l.length - (intOf i).toNat)
  case atStart => exact ⟨0, Nat.zero_le _, rfl, hid rfl⟩
  case round =>
    obtain ⟨k, hk, rfl, hm⟩ := hrel
    by_cases hlt : k < l.length
    · obtain ⟨bb, off, rfl, hb, h0⟩ := RdInts.ne ha hlt
      rcases Bool.eq_false_or_eq_true (l[k] != 0) with t1 | t1
      · have Hf := hid (show orOf l = l[k] by
          unfold orOf
          have : l.find? (fun n => n != 0) = some l[k] := by
            rw [List.find?_eq_some_iff_getElem]
            refine ⟨t1, k, hlt, rfl, fun j hj => ?_⟩
            have h0 := List.find?_eq_none.1 hm.out l[j] (List.mem_iff_getElem.2 ⟨j, by simp; omega, by simp⟩)
            simpa using h0
          rw [this]; rfl)
        go_wp2_with fail
        go_ret
        exact ⟨by rw [Hf.out]; rfl, rfl⟩
      · go_wp2_with fail
        go_round
        case rel => exact ⟨k + 1, by omega, by go_num, hid (by rw [List.take_succ_eq_append_getElem hlt, List.find?_append, hm.out]; simp [t1])⟩
        case measure => simp [intOf]; omega
    · go_wp2_with fail
      go_ret
      have := hm.out
      rw [List.take_of_length_le (by omega)] at this
      exact ⟨ret_int (by unfold orOf; rw [this]; rfl), rfl⟩

def cmpL : List Int → List Int → Int
  | a :: x, b :: y => if (cmp3 a b != 0) = true then cmp3 a b else cmpL x y
  | _, _ => 0
set_option maxHeartbeats 1000000 in
theorem compare_any (a b : Option Addr) (ca cb : Nat) (x y : List Int) (w : World) (hl : x.length ≤ 9223372036854775807) (hxy : x.length = y.length) (ha : RdInts w a x) (hb : RdInts w b y) :
    Calls Try.prog 79 #[.slice a x.length ca, .slice b y.length cb] w fun e w' => e = .returned (.int .i64 (cmpL x y)) ∧ w = w' := by
  have h1 : x.length ≤ y.length := by omega
  have h2 : y.length ≤ x.length := by omega
  clear hxy
  go_enter Try.func79, Try.ntmps79
  go_wp2_with fail
  go_loop [11] (fun i => ∃ k : Nat, k ≤ x.length ∧ i = .int .i64 k ∧ Hid (cmpL x y = cmpL (x.drop k) (y.drop k))) (fun i => x.length - (intOf i).toNat)
  case atStart => exact ⟨0, Nat.zero_le _, rfl, hid rfl⟩
  case round =>
    obtain ⟨k, hk, rfl, hm⟩ := hrel
    by_cases hlt : k < x.length
    · have hlt' : k < y.length := by omega
      obtain ⟨b1, o1, rfl, hb1, d1⟩ := RdInts.ne ha hlt
      obtain ⟨b2, o2, rfl, hb2, d2⟩ := RdInts.ne hb hlt'
      have hst : cmpL (x.drop k) (y.drop k) = if (cmp3 x[k] y[k] != 0) = true then cmp3 x[k] y[k] else cmpL (x.drop (k + 1)) (y.drop (k + 1)) := by
        rw [List.drop_eq_getElem_cons hlt, List.drop_eq_getElem_cons hlt']; rfl
      have Hst := hid hst; clear hst
      rcases Bool.eq_false_or_eq_true (cmp3 x[k] y[k] != 0) with t1 | t1
      · have Hf := hid (show cmpL x y = cmp3 x[k] y[k] by rw [hm.out, Hst.out, t1]; rfl)
        go_wp2_with (go_at_call 82; refine (cmpCompare_any _ _ _).mono ?_; rintro e w' ⟨rfl, rfl⟩)
        go_ret
        exact ⟨by rw [Hf.out]; rfl, rfl⟩
      · have Hf := hid (show cmpL x y = cmpL (x.drop (k + 1)) (y.drop (k + 1)) by rw [hm.out, Hst.out, t1]; rfl)
        go_wp2_with (go_at_call 82; refine (cmpCompare_any _ _ _).mono ?_; rintro e w' ⟨rfl, rfl⟩)
        go_round
        case rel => exact ⟨k + 1, by omega, by go_num, Hf⟩
        case measure => simp [intOf]; omega
    · have Hf := hid (show cmpL x y = 0 by
        have := hm.out
        rw [List.drop_eq_nil_of_le (by omega)] at this
        rw [this]; rfl)
      go_wp2_with fail
      go_ret
      exact ⟨by rw [Hf.out]; rfl, rfl⟩

end Go.Proofs.Ytbjgebbfachgfaa
/- Plain laws: what work without an error is. -/
namespace Go.Proofs.Ytbjgebbfachgfaa

theorem jobErr_zero {js : List Job} {i : Nat} (hi : i < js.length) (h : jobErr js i = 0) : nameOk js[i].name = true ∧ js[i].numOk = true ∧ (js.take i).any (fun j => j.name.toList == js[i].name.toList) = false := by
  have e : js.getD i Job.zero = js[i] := by simp [hi]
  unfold jobErr at h
  rw [e] at h
  by_cases h1 : nameOk js[i].name = false
  · rw [if_pos h1] at h; simp at h
  · rw [if_neg h1] at h
    by_cases h2 : (js.take i).any (fun j => j.name.toList == js[i].name.toList) = true
    · rw [if_pos h2] at h; simp at h
    · rw [if_neg h2] at h
      by_cases h3 : js[i].numOk = false
      · rw [if_pos h3] at h; simp at h
      · exact ⟨by simpa using h1, by simpa using h3, by simpa using h2⟩

structure WOk (W : Work) : Prop where
  rules : W.rules.ok = true
  jl : W.jobs.length ≤ 12
  fl : W.faults.length ≤ 20
  job : ∀ i (h : i < W.jobs.length), W.jobs[i].numOk = true
  flt : ∀ i, i < W.faults.length → fltErr W.faults i = 0

theorem wok_of_err {W : Work} (h : W.err = 0) : WOk W := by
  unfold Work.err check at h
  by_cases h1 : W.rules.ok = false
  · rw [if_pos h1] at h; simp at h
  · rw [if_neg h1] at h
    by_cases h2 : 12 < W.jobs.length ∨ 20 < W.faults.length
    · rw [if_pos h2] at h; simp at h
    · rw [if_neg h2] at h
      have nz : ∀ (f : Nat → Int) (n i : Nat), firstErr f n = some i → f i ≠ 0 := by
        intro f n i hi
        unfold firstErr at hi
        simpa using List.find?_some hi
      cases h3 : firstErr (jobErr W.jobs) W.jobs.length with
      | some i =>
        rw [h3] at h
        exact absurd h (nz _ _ _ h3)
      | none =>
        rw [h3] at h
        cases h4 : firstErr (fltErr W.faults) W.faults.length with
        | some i =>
          rw [h4] at h
          exact absurd h (nz _ _ _ h4)
        | none =>
          exact ⟨by simpa using h1, by omega, by omega, fun i hi => (jobErr_zero hi (firstErr_eq_none h3 i hi)).2.1, firstErr_eq_none h4⟩

theorem check_of_err {W : Work} (h : W.err = 0) : check W = (0, 0, 0) := by
  have hk := wok_of_err h
  unfold Work.err at h
  unfold check at h ⊢
  rw [if_neg (by simp [hk.rules]), if_neg (by have := hk.jl; have := hk.fl; omega)] at h ⊢
  cases h3 : firstErr (jobErr W.jobs) W.jobs.length with
  | some i =>
    rw [h3] at h
    unfold firstErr at h3
    have := List.find?_some h3
    simp at this; exact absurd h this
  | none =>
    rw [h3] at h
    cases h4 : firstErr (fltErr W.faults) W.faults.length with
    | some i =>
      rw [h4] at h
      unfold firstErr at h4
      have := List.find?_some h4
      simp at this; exact absurd h this
    | none => rfl

theorem WOk.jb {W : Work} (h : WOk W) {i : Nat} (hi : i < W.jobs.length) : (0 ≤ W.jobs[i].arrive ∧ W.jobs[i].arrive ≤ 5000) ∧ (1 ≤ W.jobs[i].claim ∧ W.jobs[i].claim ≤ 2000) ∧ (1 ≤ W.jobs[i].needs ∧ W.jobs[i].needs ≤ 2000) := (Job.numOk_iff _).1 (h.job i hi)
theorem WOk.fb {W : Work} (h : WOk W) {i : Nat} (hi : i < W.faults.length) : (0 ≤ W.faults[i].at0 ∧ W.faults[i].at0 ≤ 5000) ∧ (1 ≤ W.faults[i].rep ∧ W.faults[i].rep ≤ 5000) ∧ (0 < i → W.faults[i - 1].at0 + W.faults[i - 1].rep ≤ W.faults[i].at0) := fltErr_zero hi (h.flt i hi)
theorem WOk.rb {W : Work} (h : WOk W) : (1 ≤ W.rules.slice ∧ W.rules.slice ≤ 600) ∧ (0 ≤ W.rules.load ∧ W.rules.load ≤ 30) ∧ (0 ≤ W.rules.dump ∧ W.rules.dump ≤ 30) ∧ (0 ≤ W.rules.patience ∧ W.rules.patience ≤ 5000) ∧ (0 ≤ W.rules.rate ∧ W.rules.rate ≤ 1000) := (Rules.ok_iff _).1 h.rules
theorem Job.fin_bd {j : Job} (h : j.numOk = true) : 1 ≤ j.fin ∧ j.fin ≤ 2000 ∧ j.fin ≤ j.claim ∧ j.fin ≤ j.needs := by
  have := (Job.numOk_iff _).1 h
  unfold Job.fin; split <;> omega

end Go.Proofs.Ytbjgebbfachgfaa
/- the room's fault. -/
namespace Go.Proofs.Ytbjgebbfachgfaa
open Go.RowKit

theorem first_n (above : Int) (a : Option Addr) (c : Nat) (l : List Int) (n : Nat) (w : World) (hn : l.length = n) (hl : n ≤ 9223372036854775807) (ha : RdInts w a l) :
    Calls Try.prog 74 #[.int .i64 above, .slice a n c] w fun e w' => e = .returned (.tuple #[.int .i64 (firstOf above l).1, .bool (firstOf above l).2]) ∧ w = w' := by
  subst hn; exact first_any above a c l w hl ha

/-- the room at block R reads as the work W and the queue q -/
structure RoomIn (w : World) (R : Nat) (W : Work) (q : Qu) (aj af aq : Option Addr) (cj cf cq : Nat) : Prop where
  c0 : w.cell? ⟨R, 0, none⟩ = some (.int .i64 W.rules.slice)
  c1 : w.cell? ⟨R, 1, none⟩ = some (.int .i64 W.rules.load)
  c2 : w.cell? ⟨R, 2, none⟩ = some (.int .i64 W.rules.dump)
  c3 : w.cell? ⟨R, 3, none⟩ = some (.int .i64 W.rules.patience)
  c4 : w.cell? ⟨R, 4, none⟩ = some (.int .i64 W.rules.rate)
  c5 : w.cell? ⟨R, 5, none⟩ = some (.slice aj W.jobs.length cj)
  c6 : w.cell? ⟨R, 6, none⟩ = some (.slice af W.faults.length cf)
  c7 : w.cell? ⟨R, 7, none⟩ = some (.int .i64 q.now)
  c8 : w.cell? ⟨R, 8, none⟩ = some (.slice aq q.jobs.length cq)
  fz : ∀ o, w.frozen? ⟨R, o, none⟩ = false
  lt : R < w.heap.size
  wk : WorkIn w W aj af
  sts : RdSts w aq q.jobs
theorem RoomIn.at {w w' : World} {R : Nat} {W : Work} {q : Qu} {aj af aq : Option Addr} {cj cf cq : Nat} (h : RoomIn w R W q aj af aq cj cf cq) (hb : Below w.heap.size w w') : RoomIn w' R W q aj af aq cj cf cq := by
  have e : ∀ o, w'.cell? ⟨R, o, none⟩ = w.cell? ⟨R, o, none⟩ := fun o => hb.cell (p := ⟨R, o, none⟩) h.lt
  exact ⟨(e 0).trans h.c0, (e 1).trans h.c1, (e 2).trans h.c2, (e 3).trans h.c3, (e 4).trans h.c4, (e 5).trans h.c5, (e 6).trans h.c6, (e 7).trans h.c7, (e 8).trans h.c8,
    fun o => (hb.frozen (p := ⟨R, o, none⟩) h.lt).trans (h.fz o), Nat.lt_of_lt_of_le h.lt hb.size, h.wk.at hb, Rd.at h.sts hb⟩

set_option maxRecDepth 100000 in
set_option maxHeartbeats 2000000 in
theorem fault_any (R : Nat) (W : Work) (q : Qu) (aj af aq : Option Addr) (cj cf cq : Nat) (w : World) (hR : RoomIn w R W q aj af aq cj cf cq) (hK : WOk W) :
    Calls Try.prog 73 #[.pointer (some ⟨R, 0, none⟩)] w fun e w' => e = .returned (.tuple #[.int .i64 (firstOf q.now (W.faults.map Fault.at0)).1, .bool (firstOf q.now (W.faults.map Fault.at0)).2]) ∧ Below w.heap.size w w' := by
  obtain ⟨i0, hi0, hz0, hz1, hz2⟩ := info_parts info_int
  have r6 := hR.c6
  have r7 := hR.c7
  have hRl := hR.lt
  have hlf := hK.fl
  have HR := hid hR; clear hR
  go_enter Try.func73, Try.ntmps73
  go_wp2_with fail
  go_loopw [4, 13] (fun s i wr => ∃ k : Nat, ∃ v : Value, k ≤ W.faults.length ∧ i = .int .i64 k ∧ v = s ∧ Hid (OwnInts w.heap.size wr v ((W.faults.take k).map Fault.at0)) ∧ Below w.heap.size w wr) (fun _ i _ => W.faults.length - (intOf i).toNat)
  case atStart => exact ⟨0, _, Nat.zero_le _, rfl, rfl, hid (Own.nil _ _ _ _ _), Below.refl _ _⟩
  case round =>
    obtain ⟨k, v, hk, rfl, rfl, hO, hB⟩ := hrel
    obtain ⟨hc, hf⟩ := bcell hB
    have hsz := hB.size
    by_cases hlt : k < W.faults.length
    · obtain ⟨b, off, rfl, hb, d1, d2⟩ := RdFaults.ne HR.out.wk.faults hlt
      have ho : wr.ownsRow w.heap.size 3 1 v k (((W.faults.take k).map Fault.at0).flatMap fun n : Int => [Value.int .i64 n]) := by have := hO.out; unfold OwnInts Own at this; rw [show ((W.faults.take k).map Fault.at0).length = k by simp; omega] at this; exact this
      have hbr : b < wr.heap.size := by omega
      have hm1 : k + 1 ≤ maxLen := by unfold maxLen; omega
      have hm2 : (k + 1) * 8 ≤ 140737488355328 := by omega
      have hm3 : w.heap.size ≤ wr.heap.size + 1 + 1 := by omega
      go_wp2_with (at_builtin; refine append1 (wr.heap.size + 1) (by simp) rfl _ _ 48 rfl w.heap.size 3 i0 _ 1 8 Try.underlying48 hi0 hz0 hz1 hz2 rfl (by decide) v k _ rfl (ho.alloc _) 1 rfl rfl (by simp [Value.oneCell']) hm1 hm2 hm3 ?_; intro g cap w3 ho3 hg3 hb3 hs4)
      go_roundw
      case rel =>
        refine ⟨k + 1, _, by omega, by go_num, rfl, hid (Own.of (n := k + 1) (by simp; omega) ?_ ho3), ((hB.alloc (by omega) _).alloc (by simp <;> omega) _).grown hg3 (by simp <;> omega) (fun j hj => (World.ownsRow.lt ho _ hj).1)⟩
        rw [List.take_succ_eq_append_getElem hlt, List.map_append, List.flatMap_append]; rfl
      case measure => simp [intOf]; omega
    · have hkl : k = W.faults.length := by omega
      have hOf := hO.out
      rw [hkl, List.take_length] at hOf
      have HOf := hid hOf; clear hOf hkl
      obtain ⟨a, cap, hv, hrd, _⟩ := Own.rd (f := fun n : Int => [Value.int .i64 n]) (m := 1) (fun _ => rfl) HOf.out
      rw [List.length_map] at hv
      subst hv
      have hcall := fun w => first_n q.now a cap (W.faults.map Fault.at0) W.faults.length w (by simp) (by omega)
      have Hcall := hid hcall; clear hcall
      go_wp2_with (go_at_call 74; refine (Hcall.out _ hrd).mono ?_; rintro e w4 ⟨rfl, rfl⟩)
      go_ret2
      exact ⟨rfl, hB⟩

end Go.Proofs.Ytbjgebbfachgfaa
