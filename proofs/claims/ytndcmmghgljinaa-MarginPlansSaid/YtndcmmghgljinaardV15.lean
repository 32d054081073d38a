/- MarginPlans. -/
import Derived.Test.YtndcmmghgljinaardW18
import Derived.Deep.Slices
import Derived.Deep.Fields
import Derived.ProofKit
import Derived.OpenShut
import Derived.Carry
import Derived.ChangeSame
import Derived.ReadAgain
import Derived.Test.YtndcmmghgljinaardW3
import Derived.Test.YtndcmmghgljinaardM10
import Derived.Test.YtndcmmghgljinaardW13
import Derived.Test.YtndcmmghgljinaardW5
import Derived.Test.YtndcmmghgljinaardW39
import Derived.Test.YtndcmmghgljinaardW49
import Derived.Test.YtndcmmghgljinaardW32
import Derived.Test.YtndcmmghgljinaardW43
set_option linter.all false
namespace Go.Proofs.Ytndcmmghgljinaa

section
open Go.ChangeShapes Go.WideShapes Go.ChangeAt Go.RowKit Go.Deep

section
variable {H : Type} {enc : TypeId × Value → H} {P : Program} {w : World} {spare : Nat → Bool}

/-- a slice whose elements each read as some α with cells f -/
theorem open_rows {α : Type} [Inhabited α] {f : α → List Value} {m : Nat} {t e : TypeId} {ok : α → Prop} {fuel : Nat} {cs : List Value} {x : DataW H × List MemPlace} (ht : P.underlying t = some (.slice e)) (hC : P.cellsOf e = m)
    (hel : ∀ (n : Nat) (cs' : List Value) (z : DataW H × List MemPlace), cs'.length = m → DataW.trod enc P w 0 spare true n e cs' = some z → ∃ y : α, cs' = f y ∧ ok y) (hm : 0 < m) (h : DataW.trod enc P w 0 spare true fuel t cs = some x) (hlt : ∀ p ∈ x.2, p.block < w.heap.size) :
    ∃ a c, ∃ l : List α, cs = [.slice a l.length c] ∧ Rd f m w a l ∧ l.length ≤ maxLen ∧ ∀ y ∈ l, ok y := by
  rcases open_slice ht h with ⟨rfl, _⟩ | ⟨a, len, cap, m', n, D, Pl, rfl, _, hl, hcap, hm', rfl, hi⟩
  · exact ⟨none, 0, [], rfl, .inl rfl, Nat.zero_le _, fun y hy => by cases hy⟩
  · rw [hC] at hi
    have hle : len ≤ m' := by rw [hm']; split <;> omega
    have hex : ∀ i, i < len → ∃ y : α, (∀ j v, (f y)[j]? = some v → w.cell? (a.add (i * m + j)) = some v) ∧ (f y).length = m ∧ ok y := by
      intro i hilt
      obtain ⟨cs', hc, htr⟩ := hi i (by omega)
      obtain ⟨_, hlen, hcell⟩ := World.cells?_some hc
      obtain ⟨y, rfl, hok⟩ := hel n cs' _ hlen htr
      refine ⟨y, fun j v hv => ?_, hlen, hok⟩
      have hj : j < m := by
        rcases Nat.lt_or_ge j m with h | h
        · exact h
        · rw [List.getElem?_eq_none (by omega)] at hv; cases hv
      rw [← Go.Deep.add_add, hcell j hj, hv]
    obtain ⟨g, hg⟩ := choose_lt hex
    refine ⟨some a, cap, (List.range len).map g, by simp, ?_, by simp; omega, fun y hy => ?_⟩
    · by_cases h0 : len = 0
      · subst h0; exact .inl rfl
      · have h00 := hg 0 (by omega)
        obtain ⟨b, off, spot⟩ := a
        have hz : ∃ v, (f (g 0))[0]? = some v := ⟨_, List.getElem?_eq_getElem (by rw [h00.2.1]; exact hm)⟩
        obtain ⟨v0, hv0⟩ := hz
        have hc0 := h00.1 0 v0 hv0
        have hspot : spot = none := by simpa [Addr.add] using World.cell?_spot hc0
        subst hspot
        refine .inr ⟨b, off, rfl, ?_, fun i y hy j v hv => ?_⟩
        · have : MemPlace.cell b off ∈ MemPlace.row ⟨b, off, none⟩ (m' * P.cellsOf e) ++ (List.range m').flatMap Pl := by
            refine List.mem_append_left _ ?_
            have hpos : 0 < m' * P.cellsOf e := Nat.mul_pos (by omega) (by omega)
            simp only [MemPlace.row, List.mem_map, List.mem_range]
            exact ⟨0, hpos, by simp⟩
          exact hlt _ this
        · have hil : i < len := by
            rcases Nat.lt_or_ge i len with h | h
            · exact h
            · rw [List.getElem?_eq_none (by simpa using h)] at hy; cases hy
          rw [List.getElem?_eq_getElem (by simpa using hil)] at hy
          obtain rfl : g i = y := by simpa using hy
          have := (hg i hil).1 j v hv
          rw [Go.WideShapes.add_plain] at this
          rw [Nat.add_assoc]; exact this
    · obtain ⟨i, hi', rfl⟩ := List.mem_map.1 hy
      exact (hg i (by simpa using hi')).2.2
end

/-- THE POST of a law that leaves old memory alone. -/
theorem trodAll_below {H : Type} {enc : TypeId × Value → H} {P : Program} {W W' : World} (hl : laidOutB P = true) (hb : Below W.heap.size W W') {sp : Nat → Bool} : ∀ {ts : List TypeId} {vs : List Value} {ds : List (DataW H)} {ps : List MemPlace},
    (∀ t ∈ ts, P.readableRec t = true ∧ t < P.types.size) → DataW.TrodAll enc P W 0 (fun _ => true) true ts vs ds ps → (∀ p ∈ ps, p.block < W.heap.size) → (∀ p ∈ ps, sp p.block = true) → DataW.TrodAll enc P W' 0 sp true ts vs ds ps
  | [], [], [], _, _, h, _, _ => h
  | _ :: _, _ :: _, _ :: _, _, hT, ⟨p, q, h1, h2, e⟩, hlt, hs => by
    subst e
    refine ⟨p, q, WideElems.Trod_stays hl (hT _ (by simp)).1 (hT _ (by simp)).2 h1 (fun x hx => hb.same (hlt x (by simp [hx]))) (fun x hx => hs x (by simp [hx])), trodAll_below hl hb (fun t ht => hT t (by simp [ht])) h2 (fun x hx => hlt x (by simp [hx])) (fun x hx => hs x (by simp [hx])), rfl⟩

theorem post_law {H : Type} {enc : TypeId × Value → H} {P : Program} {f : Func} {s : ChangeSpec} {apart : Bool} {W W' : World} {args : Array Value} {ds : List (DataW H)} {before : List MemPlace} {tb : TypeId}
    (hl : laidOutB P = true) (hr : ∀ t ∈ f.params.toList, P.readableRec t = true ∧ t < P.types.size) (hres : f.resultTypes = #[tb]) (hbool : P.underlying tb = some .bool)
    (hW : DataW.Whole enc P f.params.toList s.vars apart W args.toList ds [] before) (hvs : s.vars = []) (hfn : s.fn H ds = { results := [.lit (.bool true)], args := ds }) (hb : Below W.heap.size W W') :
    s.post enc P f apart true false false W args (.bool true) W' := by
  have hlt : ∀ p ∈ before, p.block < W.heap.size := fun p hp => hW.lt p hp
  have hfn' : s.fn H (ds ++ []) = { results := [.lit (.bool true)], args := ds } := by rw [List.append_nil]; exact hfn
  have hW0 := hW
  obtain ⟨pa, pv, hA, hV, hps, hz, hn⟩ := hW
  rw [hvs] at hV
  obtain ⟨_, rfl⟩ := trodVars_none hV
  simp only [List.append_nil] at hps
  subst hps
  have hargs : ∀ sp : Nat → Bool, (∀ p ∈ before, sp p.block = true) → DataW.TrodAll enc P W' 0 sp true f.params.toList args.toList ds before := fun sp hsp => trodAll_below hl hb hr hA hlt hsp
  have hresl : ∀ (b : Nat) (sp : Nat → Bool) (hd : Bool), DataW.TrodAll enc P W' b sp hd f.resultTypes.toList ((Value.bool true).resultList f.resultTypes.size) [.lit (.bool true)] [] := by
    intro b sp hd
    rw [hres]
    exact trodAll_mk1 (shut_bool hbool true)
  have hok : ∀ (j : Nat) (t : TypeId) (r : Value), f.resultTypes[j]? = some t → ((Value.bool true).resultList f.resultTypes.size)[j]? = some r → Value.okWide P W' .any 0 t r := ok_one hres rfl (okWide_bool_mk hbool true)
  have hargs' : ∀ sp : Nat → Bool, (∀ p ∈ before, sp p.block = true) → DataW.TrodAll enc P W' 0 sp true f.params.toList args.toList (s.fn H (ds ++ [])).args before := by rw [hfn']; exact hargs
  have hresl' : ∀ (b : Nat) (sp : Nat → Bool) (hd : Bool), DataW.TrodAll enc P W' b sp hd f.resultTypes.toList ((Value.bool true).resultList f.resultTypes.size) (s.fn H (ds ++ [])).results [] := by rw [hfn']; exact hresl
  have hvars' : ∀ sp : Nat → Bool, DataW.TrodVars enc P W' sp s.vars (s.fn H (ds ++ [])).vars [] := by rw [hfn', hvs]; exact fun _ => rfl
  refine ⟨ds, [], before, [], before, [], hW0, hresl' _ _ _, hargs' _ (fun p hp => by simpa using hlt p hp), hvars' _, World.keptBut_mono (fun p hp => ⟨hp, by simpa using hp⟩) (hb.frame (· ∈ before)), fun _ => ?_⟩
  · refine ⟨hok, _, _, ([] ++ before) ++ [], ⟨[] ++ before, [], trodAll_append (hargs' _ (fun _ _ => rfl)) (hresl' _ _ _), hvars' _, rfl, ?_, ?_⟩, ?_⟩
    · intro b off hp
      have hin : MemPlace.cell b off ∈ before := by simpa using hp
      rw [hb.frozen (hlt _ hin)]
      exact hz b off hin
    · intro ha
      have := hn ha
      simpa using this
    · intro p hp _
      simpa using hp

/- this program -/
theorem own : ownKnob Try.prog.godebug = none := by kernel_rfl
theorem laidOut : laidOutB Try.prog = true := by kernel_rfl
end

section
open Go.RowKit


open Go.ChangeShapes Go.WideShapes Go.ChangeAt Go.RowKit Go.Deep
section
variable {H : Type} {enc : TypeId × Value → H} {w : World} {spare : Nat → Bool} {n : Nat}
theorem fld_int {i : Nat} {xs : List (DataW H × List MemPlace)} {l : List Value} (hf : DataW.trod enc Try.prog w 0 spare true n 3 l = xs[i]?) (hi : i < xs.length) : ∃ k, l = [.int .i64 k] ∧ (-9223372036854775808 ≤ k ∧ k ≤ 9223372036854775807) := by
  rw [List.getElem?_eq_getElem hi] at hf; obtain ⟨k, hk, _, hw⟩ := DataW.trod_int Try.underlying3 hf; exact ⟨k, hk, bounds_i64 hw⟩
theorem fld_bool {i : Nat} {xs : List (DataW H × List MemPlace)} {l : List Value} (hf : DataW.trod enc Try.prog w 0 spare true n 4 l = xs[i]?) (hi : i < xs.length) : ∃ k, l = [.bool k] := by
  rw [List.getElem?_eq_getElem hi] at hf; obtain ⟨k, hk, _⟩ := DataW.trod_bool Try.underlying4 hf; exact ⟨k, hk⟩
instance : Inhabited Span := ⟨Span.zero⟩
instance : Inhabited Stp := ⟨Stp.zero⟩
instance : Inhabited MCk := ⟨⟨0, 0, false⟩⟩
set_option maxRecDepth 100000 in
theorem open_span {cs : List Value} {x : DataW H × List MemPlace} (h : DataW.trod enc Try.prog w 0 spare true n 23 cs = some x) : ∃ s : Span, cs = Span.cs s := by
  obtain ⟨xs, n', _, _, hlen, hx, hf⟩ := DataW.trod_struct Try.underlying23 h; have hl : cs.length = 2 := hlen.trans (by kernel_rfl); have hxl : xs.length = 2 := hx.trans (by rfl)
  match cs, hl with
  | [c0, c1], _ =>
    obtain ⟨a, ha, _⟩ := fld_int (hf 0 _ rfl) (by omega); obtain ⟨b, hb, _⟩ := fld_int (hf 1 _ rfl) (by omega); refine ⟨⟨a, b⟩, ?_⟩
    have ec : Try.prog.cellsOf 3 = 1 := by kernel_rfl
    simp [ec] at ha hb
    subst ha hb
    rfl
set_option maxRecDepth 100000 in
theorem open_stp {cs : List Value} {x : DataW H × List MemPlace} (h : DataW.trod enc Try.prog w 0 spare true n 77 cs = some x) : ∃ s : Stp, cs = Stp.cs s := by
  obtain ⟨xs, n', _, _, hlen, hx, hf⟩ := DataW.trod_struct Try.underlying77 h; have hl : cs.length = 2 := hlen.trans (by kernel_rfl); have hxl : xs.length = 2 := hx.trans (by rfl)
  match cs, hl with
  | [c0, c1], _ =>
    obtain ⟨a, ha, _⟩ := fld_int (hf 0 _ rfl) (by omega); obtain ⟨b, hb, _⟩ := fld_int (hf 1 _ rfl) (by omega); refine ⟨⟨a, b⟩, ?_⟩
    have ec : Try.prog.cellsOf 3 = 1 := by kernel_rfl
    simp [ec] at ha hb
    subst ha hb
    rfl
set_option maxRecDepth 100000 in
theorem open_ck {cs : List Value} {x : DataW H × List MemPlace} (h : DataW.trod enc Try.prog w 0 spare true n 74 cs = some x) : ∃ s : MCk, cs = MCk.cs s := by
  obtain ⟨xs, n', _, _, hlen, hx, hf⟩ := DataW.trod_struct Try.underlying74 h; have hl : cs.length = 3 := hlen.trans (by kernel_rfl); have hxl : xs.length = 3 := hx.trans (by rfl)
  match cs, hl with
  | [c0, c1, c2], _ =>
    obtain ⟨a, ha, _⟩ := fld_int (hf 0 _ rfl) (by omega); obtain ⟨b, hb, _⟩ := fld_int (hf 1 _ rfl) (by omega); obtain ⟨c, hc⟩ := fld_bool (hf 2 _ rfl) (by omega); refine ⟨⟨a, b, c⟩, ?_⟩
    have ec : Try.prog.cellsOf 3 = 1 := by kernel_rfl
    have eb : Try.prog.cellsOf 4 = 1 := by kernel_rfl
    simp [ec, eb] at ha hb hc
    subst ha hb hc
    rfl
def KdIn (w : World) (k : Kd) (a : Option Addr) : Prop := (-9223372036854775808 ≤ k.new ∧ k.new ≤ 9223372036854775807) ∧ k.steps.length ≤ 9223372036854775807 ∧ RdSteps w a k.steps
set_option maxRecDepth 100000 in
theorem open_kd {cs : List Value} {x : DataW H × List MemPlace} (h : DataW.trod enc Try.prog w 0 spare true n 26 cs = some x) (hlt : ∀ q ∈ x.2, q.block < w.heap.size) : ∃ (k : Kd) (a : Option Addr) (c : Nat), cs = [.int .i64 k.new, .int .i64 k.wear.lo, .int .i64 k.wear.hi, .slice a k.steps.length c] ∧ KdIn w k a := by
  obtain ⟨xs, n', _, hxe, hlen, hx, hf⟩ := DataW.trod_struct Try.underlying26 h; have hl : cs.length = 4 := hlen.trans (by kernel_rfl); have hxl : xs.length = 3 := hx.trans (by rfl)
  have ec : Try.prog.cellsOf 3 = 1 := by kernel_rfl
  have es : Try.prog.cellsOf 23 = 2 := by kernel_rfl
  have et : Try.prog.cellsOf 24 = 1 := by kernel_rfl
  match cs, hl, xs, hxl with
  | [c0, c1, c2, c3], _, [x0, x1, x2], _ =>
    have h1 := hf 1 _ rfl; have h2 := hf 2 _ rfl; obtain ⟨a, ha, hab⟩ := fld_int (hf 0 _ rfl) (by simp)
    simp [ec, es, et] at ha h1 h2
    obtain ⟨s, hs⟩ := open_span h1; obtain ⟨aj, cj, lj, hj, rj, nj, _⟩ := open_rows (f := Stp.cs) (m := 2) (ok := fun _ : Stp => True) Try.underlying24 (by kernel_rfl) (fun n cs' z _ hz => (open_stp hz).imp fun _ e => ⟨e, trivial⟩) (by decide) h2 (fun q hq => hlt q (by rw [hxe]; simp [hq]))
    simp at hs hj
    obtain ⟨rfl, rfl⟩ := hs; subst ha hj; unfold maxLen at nj; exact ⟨⟨a, s, lj⟩, aj, cj, rfl, hab, by show lj.length ≤ _; omega, rj⟩
end
end

section
section
open Go.RowKit


open Go.ChangeShapes Go.WideShapes Go.ChangeAt Go.RowKit Go.Deep
section
variable {H : Type} {enc : TypeId × Value → H} {w : World} {spare : Nat → Bool} {n : Nat}
theorem okWide_array {P : Program} {w : World} {r : Reach} {base n : Nat} {t e : TypeId} {v : Value} (ht : P.underlying t = some (.array n e)) (h : Value.okWide P w r base t v) : ∃ cs, v = .agg cs ∧ cs.size = P.cellsOf t := by
  simp only [Value.okWide, ht] at h
  obtain ⟨cs, h1, h2, _⟩ := h; exact ⟨cs, h1, h2⟩

set_option maxRecDepth 100000 in
theorem open_i64_2 {base : Nat} {v : Value} {d : DataW H} {p : List MemPlace} (hv : Value.okWide Try.prog w .any base 54 v) (h : DataW.Trod enc Try.prog w 0 spare true 54 v d p) :
    ∃ x0 x1 : Int, v = .agg #[.int .i64 x0, .int .i64 x1] ∧ (-9223372036854775808 ≤ x0 ∧ x0 ≤ 9223372036854775807) ∧ (-9223372036854775808 ≤ x1 ∧ x1 ≤ 9223372036854775807) := by
  obtain ⟨cs0, rfl, hsz⟩ := okWide_array Try.underlying54 hv; obtain ⟨fuel, hf0⟩ := h; have e : Value.cells (.agg cs0) = cs0 := rfl; rw [e] at hf0; obtain ⟨xs, m, _, _, hlen, hx, hf⟩ := DataW.trod_array Try.underlying54 hf0; have hl : cs0.toList.length = 2 := hlen.trans (by kernel_rfl)
  have ec : Try.prog.cellsOf 3 = 1 := by kernel_rfl
  obtain ⟨cs0⟩ := cs0
  match cs0, hl with
  | [c0, c1], _ =>
    obtain ⟨x0, h0, b0⟩ := fld_int (hf 0 (by decide)) (by omega); obtain ⟨x1, h1, b1⟩ := fld_int (hf 1 (by decide)) (by omega)
    simp [ec] at h0 h1
    subst h0 h1; exact ⟨x0, x1, rfl, b0, b1⟩

end
end

section
open Go.RowKit


abbrev u16c (n : Int) : List Value := [.int .u16 n]
abbrev RdU := Rd u16c 1
theorem RdU.ne {w : World} {a : Option Addr} {l : List Int} (h : RdU w a l) {k : Nat} (hk : k < l.length) :
    ∃ b off, a = some ⟨b, off, none⟩ ∧ b < w.heap.size ∧ w.cell? ⟨b, off + k, none⟩ = some (.int .u16 l[k]) := by
  obtain ⟨b, off, ha, hb, hc⟩ := Rd.ne h hk; exact ⟨b, off, ha, hb, by simpa using hc 0 _ rfl⟩
end

section
open Go.RowKit


open Go.ChangeShapes Go.WideShapes Go.ChangeAt Go.RowKit Go.Deep
abbrev boolc (b : Bool) : List Value := [.bool b]
abbrev RdB := Rd boolc 1
section
variable {H : Type} {enc : TypeId × Value → H} {w : World} {spare : Nat → Bool} {n : Nat}
end
end

section
open Go.RowKit


open Go.ChangeShapes Go.WideShapes Go.ChangeAt Go.RowKit Go.Deep
section
variable {H : Type} {enc : TypeId × Value → H} {w : World} {spare : Nat → Bool} {n : Nat}
end
end

section
open Go.RowKit


theorem RdCks.at0 {w : World} {b off : Nat} {l : List MCk} {y : MCk} (h : RdCks w (some ⟨b, off, none⟩) l) (hl : 0 < l.length) (hy : l[0] = y) :
    b < w.heap.size ∧ w.cell? ⟨b, off, none⟩ = some (.int .i64 y.hour) ∧ w.cell? ⟨b, off + 1, none⟩ = some (.int .i64 y.volt) ∧ w.cell? ⟨b, off + 2, none⟩ = some (.bool y.passed) := by
  subst hy; obtain ⟨hb, hc⟩ := Rd.get h hl; refine ⟨hb, ?_, ?_, ?_⟩
  · have := hc 0 _ rfl; simpa using this
  · have := hc 1 _ rfl; simpa using this
  · have := hc 2 _ rfl; simpa using this
end

section
open Go.RowKit


end

section
open Go.RowKit


end
end

section
section
open Go.RowKit


theorem RdB.ne {w : World} {a : Option Addr} {l : List Bool} (h : RdB w a l) {k : Nat} (hk : k < l.length) :
    ∃ b off, a = some ⟨b, off, none⟩ ∧ b < w.heap.size ∧ w.cell? ⟨b, off + k, none⟩ = some (.bool l[k]) := by
  obtain ⟨b, off, ha, hb, hc⟩ := Rd.ne h hk; exact ⟨b, off, ha, hb, by simpa using hc 0 _ rfl⟩
end

section
open Go.RowKit


theorem incr_of {l : List Int} (h1 : ndec l = true) (h2 : dups l = false) : Incr l := by
  have key : ∀ i, i + 1 < l.length → l.getD i 0 < l.getD (i + 1) 0 := by
    intro i hi; have a := ndec_iff.1 h1 i hi
    have b : ¬ dups l = true := by rw [h2]; decide
    rw [dups_iff] at b
    have c : ¬ l[i] = l[i + 1] := fun e => b ⟨i, hi, e⟩
    rw [getD_get (show i < l.length by omega), getD_get hi]
    omega
  intro i j hij
  induction j with
  | zero => omega
  | succ j ih =>
    intro hj; have k1 := key j hj
    rcases Nat.lt_or_ge i j with h | h
    · have := ih h (by omega); omega
    · have e : i = j := by omega
      subst e; exact k1
theorem rep_zero {rack : List Vl} {l : List Int} {f u : Int} (h : repErr rack l f u = 0) : l.length ≤ 20 ∧ Incr l ∧ f ≤ u ∧ rackErr f rack = 0 := by
  unfold repErr at h
  by_cases h1 : 12 < rack.length ∨ 20 < l.length
  · rw [if_pos h1] at h; cases h
  rw [if_neg h1] at h
  by_cases h2 : l.any (fun n => !inb n 0 100000) = true ∨ inb f 0 100000 = false ∨ inb u 0 100000 = false
  · rw [if_pos h2] at h; cases h
  rw [if_neg h2] at h
  by_cases h3 : ndec l = false ∨ dups l = true ∨ u < f
  · rw [if_pos h3] at h; cases h
  rw [if_neg h3] at h; exact ⟨by omega, incr_of (by cases e : ndec l; exact absurd (.inl e) h3; rfl) (by cases e : dups l; rfl; exact absurd (.inr (.inl e)) h3), by omega, h⟩
def sumLen (o : List (List Int)) : Nat := (o.map List.length).sum
theorem sum_set : ∀ {o : List (List Int)} {n : Nat} {x : Int}, n < o.length → sumLen (o.set n (o.getD n [] ++ [x])) = sumLen o + 1
  | [], n, x, h => by cases h
  | a :: o, 0, x, _ => by simp [sumLen]; omega
  | a :: o, n + 1, x, h => by
    have := sum_set (o := o) (n := n) (x := x) (by simpa using h)
    simp only [sumLen, List.getD_cons_succ, List.set_cons_succ, List.map_cons, List.sum_cons] at this ⊢
    omega
theorem sum_add {i : Nat} : ∀ {p : List Int} {o : List (List Int)}, (∀ x ∈ p, x.toNat < o.length) → sumLen (addPlan o i p) = sumLen o + p.length
  | [], o, _ => rfl
  | x :: p, o, h => by
    have h0 := h x (by simp); have := sum_add (i := i) (p := p) (o := o.set x.toNat (o.getD x.toNat [] ++ [(i : Int)])) (fun y hy => by rw [List.length_set]; exact h y (by simp [hy])); rw [sum_set h0] at this
    show sumLen (addPlan _ i p) = _
    rw [this]
    simp only [List.length_cons]
    omega
theorem add_len {i : Nat} : ∀ {p : List Int} {o : List (List Int)}, (addPlan o i p).length = o.length
  | [], o => rfl
  | x :: p, o => by
    show (addPlan _ i p).length = _
    rw [add_len, List.length_set]
end

section
open Go.RowKit


open Go.ChangeShapes Go.WideShapes Go.ChangeAt Go.RowKit Go.Deep
section
variable {H : Type} {enc : TypeId × Value → H} {w : World} {spare : Nat → Bool} {n : Nat}
set_option maxRecDepth 100000 in
theorem open_ints {base : Nat} {v : Value} {d : DataW H} {p : List MemPlace} (hv : Value.okWide Try.prog w .any base 47 v) (h : DataW.Trod enc Try.prog w 0 spare true 47 v d p) (hlt : ∀ x ∈ p, x.block < w.heap.size) :
    ∃ (l : List Int) (a : Option Addr) (c : Nat), v = .slice a l.length c ∧ RdInts w a l ∧ l.length ≤ 9223372036854775807 ∧ True := by
  obtain ⟨a0, len, cap, rfl⟩ := okWide_slice Try.underlying47 hv; obtain ⟨fuel, hf0⟩ := h; obtain ⟨a, c, l, hj, rj, nj, _⟩ := open_rows (f := int1) (m := 1) (ok := fun _ : Int => True) Try.underlying47 (by kernel_rfl) (fun n cs' z _ hz => by obtain ⟨k, hk, _⟩ := DataW.trod_int Try.underlying3 hz; exact ⟨k, hk, trivial⟩) (by decide) hf0 (fun q hq => hlt q hq)
  simp [Value.cells] at hj
  obtain ⟨rfl, rfl, rfl⟩ := hj; unfold maxLen at nj; exact ⟨l, a0, cap, rfl, rj, by omega, trivial⟩
end
end
end

section
open Go.RowKit


open Go.ChangeShapes Go.WideShapes Go.ChangeAt Go.RowKit Go.Deep
section
variable {H : Type} {P : Program} {enc : TypeId × Value → H} {w : World} {spare : Nat → Bool} {n : Nat}

theorem open_rows3 {α : Type} [Inhabited α] {f : α → List Value} {m : Nat} {t e : TypeId} {ok : α → Prop} {fuel : Nat} {cs : List Value} {x : DataW H × List MemPlace} (ht : P.underlying t = some (.slice e)) (hC : P.cellsOf e = m)
    (hel : ∀ (n : Nat) (cs' : List Value) (z : DataW H × List MemPlace), cs'.length = m → DataW.trod enc P w 0 spare true n e cs' = some z → (∀ p ∈ z.2, p.block < w.heap.size) → ∃ y : α, cs' = f y ∧ ok y) (hm : 0 < m) (h : DataW.trod enc P w 0 spare true fuel t cs = some x) (hlt : ∀ p ∈ x.2, p.block < w.heap.size) :
    ∃ a c, ∃ l : List α, cs = [.slice a l.length c] ∧ Rd f m w a l ∧ l.length ≤ maxLen ∧ ∀ y ∈ l, ok y := by
  rcases open_slice ht h with ⟨rfl, _⟩ | ⟨a, len, cap, m', n, D, Pl, rfl, _, hl, hcap, hm', rfl, hi⟩
  · exact ⟨none, 0, [], rfl, .inl rfl, Nat.zero_le _, fun y hy => by cases hy⟩
  · rw [hC] at hi
    have hle : len ≤ m' := by rw [hm']; split <;> omega
    have hex : ∀ i, i < len → ∃ y : α, (∀ j v, (f y)[j]? = some v → w.cell? (a.add (i * m + j)) = some v) ∧ (f y).length = m ∧ ok y := by
      intro i hilt; obtain ⟨cs', hc, htr⟩ := hi i (by omega); obtain ⟨_, hlen, hcell⟩ := World.cells?_some hc; obtain ⟨y, rfl, hok⟩ := hel n cs' _ hlen htr (fun p hp => hlt p (List.mem_append_right _ (List.mem_flatMap.2 ⟨i, List.mem_range.2 (by omega), hp⟩))); refine ⟨y, fun j v hv => ?_, hlen, hok⟩
      have hj : j < m := by
        rcases Nat.lt_or_ge j m with h | h
        · exact h
        · rw [List.getElem?_eq_none (by omega)] at hv; cases hv
      rw [← Go.Deep.add_add, hcell j hj, hv]
    obtain ⟨g, hg⟩ := choose_lt hex; refine ⟨some a, cap, (List.range len).map g, by simp, ?_, by simp; omega, fun y hy => ?_⟩
    · by_cases h0 : len = 0
      · subst h0; exact .inl rfl
      · have h00 := hg 0 (by omega)
        obtain ⟨b, off, spot⟩ := a; have hz : ∃ v, (f (g 0))[0]? = some v := ⟨_, List.getElem?_eq_getElem (by rw [h00.2.1]; exact hm)⟩; obtain ⟨v0, hv0⟩ := hz; have hc0 := h00.1 0 v0 hv0
        have hspot : spot = none := by simpa [Addr.add] using World.cell?_spot hc0
        subst hspot; refine .inr ⟨b, off, rfl, ?_, fun i y hy j v hv => ?_⟩
        · have : MemPlace.cell b off ∈ MemPlace.row ⟨b, off, none⟩ (m' * P.cellsOf e) ++ (List.range m').flatMap Pl := by
            refine List.mem_append_left _ ?_; have hpos : 0 < m' * P.cellsOf e := Nat.mul_pos (by omega) (by omega)
            simp only [MemPlace.row, List.mem_map, List.mem_range]
            exact ⟨0, hpos, by simp⟩
          exact hlt _ this
        · have hil : i < len := by
            rcases Nat.lt_or_ge i len with h | h
            · exact h
            · rw [List.getElem?_eq_none (by simpa using h)] at hy; cases hy
          rw [List.getElem?_eq_getElem (by simpa using hil)] at hy
          obtain rfl : g i = y := by simpa using hy
          have := (hg i hil).1 j v hv; rw [Go.WideShapes.add_plain] at this; rw [Nat.add_assoc]; exact this
    · obtain ⟨i, hi', rfl⟩ := List.mem_map.1 hy
      exact (hg i (by simpa using hi')).2.2

instance : Inhabited Vl := ⟨⟨⟨0, ⟨0, 0⟩, []⟩, none, 0, none, 0, []⟩⟩
set_option maxRecDepth 100000 in
theorem open_vl {cs : List Value} {x : DataW H × List MemPlace} (h : DataW.trod enc Try.prog w 0 spare true n 92 cs = some x) (hlt : ∀ q ∈ x.2, q.block < w.heap.size) : ∃ y : Vl, cs = y.vs ∧ (VlIn y ∧ RdSteps w y.a y.k.steps ∧ RdCks w y.ca y.cs) := by
  obtain ⟨xs, n', _, hxe, hlen, hx, hf⟩ := DataW.trod_struct Try.underlying92 h; have hl : cs.length = 5 := hlen.trans (by kernel_rfl); have hxl : xs.length = 2 := hx.trans (by rfl)
  have ek : Try.prog.cellsOf 26 = 4 := by kernel_rfl
  have ec : Try.prog.cellsOf 33 = 1 := by kernel_rfl
  match cs, hl, xs, hxl with
  | [c0, c1, c2, c3, c4], _, [x0, x1], _ =>
    have h0 := hf 0 _ rfl; have h1 := hf 1 _ rfl
    simp [ek, ec] at h0 h1
    obtain ⟨k, a, c, h2, h3⟩ := open_kd h0 (fun q hq => hlt q (by rw [hxe]; simp [hq])); obtain ⟨ac, cc, l, hj, rj, nj, _⟩ := open_rows (f := MCk.cs) (m := 3) (ok := fun _ : MCk => True) Try.underlying33 (by kernel_rfl) (fun n cs' z _ hz => (open_ck hz).imp fun _ e => ⟨e, trivial⟩) (by decide) h1 (fun q hq => hlt q (by rw [hxe]; simp [hq]))
    simp at h2 hj
    obtain ⟨rfl, rfl, rfl, rfl⟩ := h2; subst hj; unfold maxLen at nj; exact ⟨⟨k, a, c, ac, cc, l⟩, rfl, ⟨h3.1, h3.2.1, by show l.length ≤ _; omega⟩, h3.2.2, rj⟩
set_option maxRecDepth 100000 in
theorem open_rack {base : Nat} {v : Value} {d : DataW H} {p : List MemPlace} (hv : Value.okWide Try.prog w .any base 53 v) (h : DataW.Trod enc Try.prog w 0 spare true 53 v d p) (hlt : ∀ x ∈ p, x.block < w.heap.size) :
    ∃ (l : List Vl) (a : Option Addr) (c : Nat), v = .slice a l.length c ∧ RdRack w a l ∧ l.length ≤ 9223372036854775807 := by
  obtain ⟨a0, len, cap, rfl⟩ := okWide_slice Try.underlying53 hv; obtain ⟨fuel, hf0⟩ := h; obtain ⟨a, c, l, hj, rj, nj, bj⟩ := open_rows3 (f := Vl.vs) (m := 5) (ok := fun y : Vl => VlIn y ∧ RdSteps w y.a y.k.steps ∧ RdCks w y.ca y.cs) Try.underlying53 (by kernel_rfl) (fun n cs' z _ hz hlt' => open_vl hz hlt') (by decide) hf0 (fun q hq => hlt q hq)
  simp [Value.cells] at hj
  obtain ⟨rfl, rfl, rfl⟩ := hj; unfold maxLen at nj; exact ⟨l, a0, cap, rfl, ⟨rj, fun y hy => (bj y hy).2.1, fun y hy => (bj y hy).2.2, fun y hy => (bj y hy).1⟩, by omega⟩
end
theorem row_sumP {n : Nat} : ∀ {P : List (List Int)}, (P.getD n []).length ≤ sumLen P := by
  induction n with
  | zero => intro P; cases P <;> simp [sumLen]
  | succ n ih =>
    intro P
    cases P with
    | nil => simp [sumLen]
    | cons a P => have := ih (P := P); simp only [List.getD_cons_succ]; simp only [sumLen, List.map_cons, List.sum_cons] at this ⊢; omega
theorem repGo_sumP {l : List Int} {f u : Int} (hl : l.length ≤ 20) : ∀ {t : List Vl} {i : Nat} {o o' : List (List Int)}, repGo l f u t i o = some o' → o.length = l.length → sumLen o' ≤ sumLen o + 20 * t.length ∧ o'.length = l.length
  | [], i, o, o', h, ho => by cases h; exact ⟨by omega, ho⟩
  | x :: t, i, o, o', h, ho => by
    have h' : (match planR x.k l (vCan f x) f u with | none => none | some p => repGo l f u t (i + 1) (addPlan o i p)) = some o' := h
    cases hp : planR x.k l (vCan f x) f u with
    | none => rw [hp] at h'; cases h'
    | some p =>
      rw [hp] at h'; have hin := plan_in _ hp; have h1 := repGo_sumP hl (t := t) h' (by rw [add_len]; exact ho); rw [sum_add (fun y hy => by have := hin y hy; omega)] at h1; have h2 := planR_len hp
      simp only [List.length_cons]
      exact ⟨by omega, h1.2⟩
theorem rep_rows {rack : List Vl} {l : List Int} {f u : Int} : (repRes rack l f u).1.length ≤ 20 ∧ ∀ n, ((repRes rack l f u).1.getD n []).length ≤ 240 := by
  by_cases hz : repErr rack l f u = 0
  · obtain ⟨h1, _, _, _⟩ := rep_zero hz
    have h5 : rack.length ≤ 12 := by
      unfold repErr at hz
      by_cases e : 12 < rack.length ∨ 20 < l.length
      · rw [if_pos e] at hz; cases hz
      · omega
    cases ho : repOut rack l f u with
    | none =>
      have : repRes rack l f u = ([], 9) := by unfold repRes; rw [if_neg (by rw [hz]; decide), ho]
      rw [this]; exact ⟨Nat.zero_le _, fun n => by simp⟩
    | some o =>
      have hr : repRes rack l f u = (o, 0) := by unfold repRes; rw [if_neg (by rw [hz]; decide), ho]
      rw [hr]; have h3 := repGo_sumP h1 (show repGo l f u rack 0 (List.replicate l.length []) = some o from ho) (by rw [List.length_replicate])
      have h4 : sumLen (List.replicate l.length ([] : List Int)) = 0 := by simp [sumLen]
      refine ⟨by show o.length ≤ 20; omega, fun n => ?_⟩; have h6 := row_sumP (n := n) (P := o)
      show (o.getD n []).length ≤ 240
      omega
  · have : repRes rack l f u = ([], repErr rack l f u) := by unfold repRes; rw [if_pos hz]
    rw [this]; exact ⟨Nat.zero_le _, fun n => by simp⟩
def RepV (R : List (List Int) × Int) (w : World) (e : Ending) (w' : World) : Prop :=
  ∃ a xs c, e = .returned (.tuple #[.slice a xs.length c, .int .i64 R.2]) ∧ RdPlan w' a xs ∧ xs.map Sl.l = R.1 ∧ (xs.length ≤ 9223372036854775807 ∧ ∀ x ∈ xs, x.l.length ≤ 9223372036854775807) ∧ Below w.heap.size w w'
theorem repV_of {rack : List Vl} {l : List Int} {f u : Int} {R : List (List Int) × Int} (hR : repRes rack l f u = R) {w : World} {e : Ending} {w' : World} (h : RepRes rack l f u w e w') : RepV R w e w' := by
  subst hR; obtain ⟨a, xs, c, h1, h2, h3, h4, _⟩ := h; obtain ⟨b1, b2⟩ := rep_rows (rack := rack) (l := l) (f := f) (u := u); refine ⟨a, xs, c, h1, h2, h3, ⟨?_, fun x hx => ?_⟩, h4⟩
  · rw [← h3, List.length_map] at b1; omega
  · obtain ⟨i, hi, rfl⟩ := List.mem_iff_getElem.1 hx
    have := b2 i; rw [← h3, getD_get (by rw [List.length_map]; exact hi), List.getElem_map] at this
    omega
theorem qreplace_v (ar : Option Addr) (cr : Nat) (rack : List Vl) (an : Option Addr) (cn : Nat) (l : List Int) (f u : Int) (R : List (List Int) × Int) (w : World) (hV : repRes rack l f u = R) (hR : RdRack w ar rack) (hRl : RdInts w an l) (hlr : rack.length ≤ 9223372036854775807) (hll : l.length ≤ 9223372036854775807) :
    Calls Try.prog 35 #[.slice ar rack.length cr, .slice an l.length cn, .int .i64 f, .int .i64 u] w (RepV R w) := (qreplace_any ar cr rack an cn l f u w hR hRl hlr hll).mono fun e w' h => repV_of hV h
theorem rreplace_v (ar : Option Addr) (cr : Nat) (rack : List Vl) (an : Option Addr) (cn : Nat) (l : List Int) (f u : Int) (R : List (List Int) × Int) (w : World) (hV : repRes rack l f u = R) (hR : RdRack w ar rack) (hRl : RdInts w an l) (hlr : rack.length ≤ 9223372036854775807) (hll : l.length ≤ 9223372036854775807) :
    Calls Try.prog 36 #[.slice ar rack.length cr, .slice an l.length cn, .int .i64 f, .int .i64 u] w (RepV R w) := (rreplace_any ar cr rack an cn l f u w hR hRl hlr hll).mono fun e w' h => repV_of hV h
theorem plans_tt {al am : Option Addr} {cl cm : Nat} {l m : List Sl} {w : World} (he : l.map Sl.l = m.map Sl.l) (hRl : RdPlan w al l) (hRm : RdPlan w am m) (hll : l.length ≤ 9223372036854775807 ∧ ∀ x ∈ l, x.l.length ≤ 9223372036854775807) (hlm : m.length ≤ 9223372036854775807 ∧ ∀ x ∈ m, x.l.length ≤ 9223372036854775807) :
    Calls Try.prog 37 #[.slice al l.length cl, .slice am m.length cm] w (fun e w' => e = .returned (.bool true) ∧ Below w.heap.size w w') :=
  (rplans_any al cl l am cm m w hRl hRm hll.1 hlm.1 hll.2 hlm.2).mono fun e w' h => ⟨by rw [h.1, decide_eq_true he], h.2⟩
theorem RdRack.oldN {w w' : World} {ar : Option Addr} {rack : List Vl} (h : RdRack w ar rack) (ho : OldB [] w w') : RdRack w' ar rack :=
  ⟨Rd.oldB h.rd ho (by simp), fun x hx => Rd.oldB (h.st x hx) ho (by simp), fun x hx => Rd.oldB (h.ck x hx) ho (by simp), h.inn⟩
end

section
open Go.RowKit

set_option maxRecDepth 100000 in
set_option maxHeartbeats 8000000 in
theorem plans_walk (ar : Option Addr) (cr : Nat) (rack : List Vl) (an : Option Addr) (cn : Nat) (l : List Int) (f u : Int) (w : World) (hR : RdRack w ar rack) (hlr : rack.length ≤ 9223372036854775807) (hRl : RdInts w an l) (hll : l.length ≤ 9223372036854775807) :
    Calls Try.prog 7 #[.slice ar rack.length cr, .slice an l.length cn, .agg #[.int .i64 f, .int .i64 u]] w (fun e w' => e = .returned (.bool true) ∧ Below w.heap.size w w') := by
 have HR := hid hR; have HRl := hid hRl; clear hR hRl; obtain ⟨R, hV⟩ : ∃ r, repRes rack l f u = r := ⟨_, rfl⟩; have HV := hid hV; clear hV
 refine enter_F Try.func7 rfl Try.ntmps7 (by simp) ?_
 intro s0 hs; have sl0 : s0 0 = .slice ar rack.length cr := hs 0 (by simp); have sl1 : s0 1 = .slice an l.length cn := hs 1 (by simp); have sl2 : s0 2 = .agg #[.int .i64 f, .int .i64 u] := hs 2 (by simp); clear hs; have HB := hid (OldB.refl [] w)
 repeat ((fail_if_success refine stp ?_); with_reducible go_step)
 refine region_F ?_; refine pa (fun w1 B5 hB kb5' hb2 => ?_); have gb5 := HB.out.gB hB; have eb5 := eB hB; clear hB; replace HB := hid (HB.out.below hb2); clear hb2; have kb5 := kb5'; clear kb5'; have qb5 := kb5.1; refine pl ?_; refine listF_abs (fun s3 z' => ?_); replace sl0 := gs 0 z' sl0; replace sl1 := gs 1 z' sl1; have sl5 := gu 5 z'; clear z' sl2; refine listF_nil ?_
 repeat ((fail_if_success refine stp ?_); with_reducible go_step)
 refine region_F ?_
 iterate 3 refine pl ?_
 have cb5_0 := kb5.cell 0 rfl; have cb5_1 := kb5.cell 1 rfl
 iterate 3 refine pl ?_
 refine listF_step rfl (fun K' hK => ?_); unfold opF; go_simp; refine (qreplace_v ar cr rack an cn l f u R _ HV.out (RdRack.oldN HR.out HB.out) (Rd.oldB HRl.out HB.out (by simp)) hlr hll).mono ?_; rintro e w4 ⟨ap, xs, cp, rfl, hp, hx, hs, hb5⟩; have Hp := hid hp; have Hx := hid hx; have Hs := hid hs; have HLp := hid (OldB.refl [] w4); clear hp hx hs; refine ⟨_, rfl, hK _ _ ?_⟩; clear hK K'; clear cb5_0 cb5_1; clear qb5; replace kb5 := kb5.at hb5; replace HB := hid (HB.out.below hb5); clear hb5; have qb5 := kb5.1
 iterate 5 refine pl ?_
 refine listF_abs (fun s6 z' => ?_); replace sl0 := gs 0 z' sl0; replace sl1 := gs 1 z' sl1; replace sl5 := gs 5 z' sl5; have sl7 := gu 7 z'; have sl8 := gu 8 z'; clear z'; refine listF_nil ?_
 repeat ((fail_if_success refine stp ?_); with_reducible go_step)
 refine region_F ?_
 iterate 3 refine pl ?_
 have cb5_0 := kb5.cell 0 rfl; have cb5_1 := kb5.cell 1 rfl
 iterate 3 refine pl ?_
 refine listF_step rfl (fun K' hK => ?_); unfold opF; go_simp; refine (rreplace_v ar cr rack an cn l f u R _ HV.out (RdRack.oldN HR.out HB.out) (Rd.oldB HRl.out HB.out (by simp)) hlr hll).mono ?_; rintro e w7 ⟨aq, ys, cq, rfl, hp, hy, hs, hb8⟩; have Hq := hid hp; have Hy := hid hy; have Ht := hid hs; have HLq := hid (OldB.refl [] w7); clear hp hy hs; refine ⟨_, rfl, hK _ _ ?_⟩; clear hK K'; clear cb5_0 cb5_1; clear qb5; replace kb5 := kb5.at hb8; replace HLp := hid (HLp.out.below hb8); replace HB := hid (HB.out.below hb8); clear hb8; have qb5 := kb5.1
 iterate 5 refine pl ?_
 refine listF_abs (fun s9 z' => ?_); replace sl7 := gs 7 z' sl7; replace sl8 := gs 8 z' sl8; have sl9 := gu 9 z'; have sl10 := gu 10 z'; clear z' sl0 sl1 sl5; refine listF_nil ?_
 repeat ((fail_if_success refine stp ?_); with_reducible go_step)
 refine region_F ?_; refine pl ?_; refine pl ?_; refine listF_step rfl (fun K' hK => ?_); unfold opF; go_simp; refine (plans_tt (Hx.out.trans Hy.out.symm) (RdPlan.oldB Hp.out HLp.out) (RdPlan.oldB Hq.out HLq.out) Hs.out Ht.out).mono ?_; rintro e w10 ⟨rfl, hb11⟩; refine ⟨_, rfl, hK _ _ ?_⟩; clear hK K'; clear qb5; replace kb5 := kb5.at hb11; replace HLp := hid (HLp.out.below hb11); replace HLq := hid (HLq.out.below hb11); replace HB := hid (HB.out.below hb11); clear hb11; have qb5 := kb5.1; refine pl ?_
 iterate 3 refine py ?_
 refine pl ?_; refine pl ?_; refine listF_yes rfl rfl (by decide) ?_ (fun K' hK => ?_); (focus (go_simp; done)); unfold opF; go_simp; refine (awake_any _).mono ?_; rintro e w12 ⟨rfl, hb13⟩; refine ⟨_, rfl, hK _ _ ?_⟩; clear hK K'; clear qb5; replace kb5 := kb5.at hb13; replace HLp := hid (HLp.out.below hb13); replace HLq := hid (HLq.out.below hb13); replace HB := hid (HB.out.below hb13); clear hb13; have qb5 := kb5.1; refine pl ?_; refine pl ?_; refine listF_abs (fun s14 z' => ?_); have sl6 := gu 6 z'; clear z' sl7 sl8 sl9 sl10; refine listF_nil ?_
 repeat ((fail_if_success refine stp ?_); with_reducible go_step)
 refine ret_F _ (res_t Try.results7 ((getD_F (by decide)).trans sl6)) ?_; exact ⟨rfl, HB.out.toBelow⟩
end


end Go.Proofs.Ytndcmmghgljinaa
