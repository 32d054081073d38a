/- Short forms: slots, steps between regions, runs of plain operations, cells, what stays, stores. -/
import Derived.Test.YtleknidlgmmgbaaGreattsCX
set_option linter.all false
namespace Go.Proofs.YtleknidlgmmgbaaGreat
open Go.RowKit

structure PX (us : List Nat) (S : Nat → Value) (G T : (Nat → Value) → Prop) : Prop where
  go : T S → G S
theorem pxn {S : Nat → Value} {G : (Nat → Value) → Prop} : PX [] S G G := ⟨fun h => h⟩
theorem pxh {us : List Nat} {S : Nat → Value} {t : Nat} {v : Value} {G T : (Nat → Value) → Prop} (h : S t = v) (k : PX us S G T) : PX us S G (fun s' => s' t = v → T s') := ⟨fun hT => k.go (hT h)⟩
theorem sgx {s S : Nat → Value} {t : Nat} {v : Value} (h : s t = v) (e : S t = s t := by first | (simp only [updS_some, updS_none, Nat.reduceEqDiff, ↓reduceIte]; done) | rfl) : S t = v := e.trans h
theorem pxu {us : List Nat} {S : Nat → Value} {t : Nat} {v : Value} {G T : (Nat → Value) → Prop} (e : S t = v) (k : PX us S G T) : PX (t :: us) S G (fun s' => s' t = v → T s') := ⟨fun hT => k.go (hT e)⟩
theorem lx {P : Program} {ops : Array Oper} {n : Nat} {K : (Nat → Value) → World → Prop} {l : List Oper} {w : World} (us : List Nat) {S : Nat → Value} {T : (Nat → Value) → Prop} (h : ∀ s, T s)
    (e : PX us S (fun s => listF P ops n K l s w) T := by
      (try apply pxh (sgx sl0)); (try apply pxh (sgx sl1)); (try apply pxh (sgx sl2)); (try apply pxh (sgx sl3)); (try apply pxh (sgx sl4)); (try apply pxh (sgx sl5)); (try apply pxh (sgx sl6)); (try apply pxh (sgx sl7)); (try apply pxh (sgx sl8)); (try apply pxh (sgx sl9)); (try apply pxh (sgx sl10)); (try apply pxh (sgx sl11)); (try apply pxh (sgx sl12)); (try apply pxh (sgx sl13)); (try apply pxh (sgx sl14)); (try apply pxh (sgx sl15)); (try apply pxh (sgx sl16)); (try apply pxh (sgx sl17)); (try apply pxh (sgx sl18)); (try apply pxh (sgx sl19)); (try apply pxh (sgx sl20)); (try apply pxh (sgx sl21)); (try apply pxh (sgx sl22)); (try apply pxh (sgx sl23)); (try apply pxh (sgx sl24)); (try apply pxh (sgx sl25)); (try apply pxh (sgx sl26)); (try apply pxh (sgx sl27)); (try apply pxh (sgx sl28)); (try apply pxh (sgx sl29)); (try apply pxh (sgx sl30)); (try apply pxh (sgx sl31)); (try apply pxh (sgx sl32)); (try apply pxh (sgx sl33)); (try apply pxh (sgx sl34)); (try apply pxh (sgx sl35)); (try apply pxh (sgx sl36)); (try apply pxh (sgx sl37)); (try apply pxh (sgx sl38)); (try apply pxh (sgx sl39)); (try apply pxh (sgx sl40)); (try apply pxh (sgx sl41)); (try apply pxh (sgx sl42)); (try apply pxh (sgx sl43)); (try apply pxh (sgx sl44)); (try apply pxh (sgx sl45)); (try apply pxh (sgx sl46)); (try apply pxh (sgx sl47)); (try apply pxh (sgx sl48)); (try apply pxh (sgx sl49)); (try apply pxh (sgx sl50)); (try apply pxh (sgx sl51)); (try apply pxh (sgx sl52)); (try apply pxh (sgx sl53)); (try apply pxh (sgx sl54)); (try apply pxh (sgx sl55)); (try apply pxh (sgx sl56)); (try apply pxh (sgx sl57)); (try apply pxh (sgx sl58)); (try apply pxh (sgx sl59)); (try apply pxh (sgx sl60)); (try apply pxh (sgx sl61)); (try apply pxh (sgx sl62)); (try apply pxh (sgx sl63)); (try apply pxh (sgx sl64)); (try apply pxh (sgx sl65)); (try apply pxh (sgx sl66)); (try apply pxh (sgx sl67)); (try apply pxh (sgx sl68)); (try apply pxh (sgx sl69)); (try apply pxh (sgx sl70)); (try apply pxh (sgx sl71)); (try apply pxh (sgx sl72)); (try apply pxh (sgx sl73)); (try apply pxh (sgx sl74)); (try apply pxh (sgx sl75)); (try apply pxh (sgx sl76)); (try apply pxh (sgx sl77)); (try apply pxh (sgx sl78)); (try apply pxh (sgx sl79)); (try apply pxh (sgx sl80)); (try apply pxh (sgx sl81)); (try apply pxh (sgx sl82)); (try apply pxh (sgx sl83)); (try apply pxh (sgx sl84)); (try apply pxh (sgx sl85)); (try apply pxh (sgx sl86)); (try apply pxh (sgx sl87)); (try apply pxh (sgx sl88)); (try apply pxh (sgx sl89)); (try apply pxh (sgx sl90)); (try apply pxh (sgx sl91)); (try apply pxh (sgx sl92)); (try apply pxh (sgx sl93)); (try apply pxh (sgx sl94)); (try apply pxh (sgx sl95)); (try apply pxh (sgx sl96)); (try apply pxh (sgx sl97)); (try apply pxh (sgx sl98)); (try apply pxh (sgx sl99)); (try apply pxh (sgx sl100)); (try apply pxh (sgx sl101)); (try apply pxh (sgx sl102)); (try apply pxh (sgx sl103)); (try apply pxh (sgx sl104)); (try apply pxh (sgx sl105)); (try apply pxh (sgx sl106)); (try apply pxh (sgx sl107)); (try apply pxh (sgx sl108)); (try apply pxh (sgx sl109)); (try apply pxh (sgx sl110)); (try apply pxh (sgx sl111)); (try apply pxh (sgx sl112)); (try apply pxh (sgx sl113)); (try apply pxh (sgx sl114)); (try apply pxh (sgx sl115)); (try apply pxh (sgx sl116)); (try apply pxh (sgx sl117)); (try apply pxh (sgx sl118)); (try apply pxh (sgx sl119)); (try apply pxh (sgx sl120)); (try apply pxh (sgx sl121));
      repeat (apply pxu (by (simp only [updS_some, updS_none, Nat.reduceEqDiff, ↓reduceIte]); rfl))
      exact pxn) : listF P ops n K l S w := e.go (h S)
theorem zx {A B : Prop} (h : B) (e : B → A := by intro h; (repeat (first | with_reducible refine wp_seq_k (fun K hK => ?_) | ((fail_if_success refine stp ?_); go_step))); (repeat (revert K)); exact h) : A := e h
theorem nr {A B : Prop} (h : B) (e : B → A := by intro h; (repeat (first | with_reducible refine wp_seq_k (fun K hK => ?_) | ((fail_if_success refine stp ?_); go_step))); refine region_F ?_; (repeat (revert K)); exact h) : A := e h
theorem ln {A B : Prop} (h : B) (e : B → A := by intro h; refine listF_nil ?_; (repeat (first | with_reducible refine wp_seq_k (fun K hK => ?_) | ((fail_if_success refine stp ?_); go_step))); (repeat (revert K)); exact h) : A := e h
theorem lr {A B : Prop} (h : B) (e : B → A := by intro h; refine listF_nil ?_; (repeat (first | with_reducible refine wp_seq_k (fun K hK => ?_) | ((fail_if_success refine stp ?_); go_step))); refine region_F ?_; (repeat (revert K)); exact h) : A := e h
theorem P2 {A B : Prop} (h : B) (e : B → A := by intro h; (iterate 2 refine pl ?_); exact h) : A := e h
theorem P3 {A B : Prop} (h : B) (e : B → A := by intro h; (iterate 3 refine pl ?_); exact h) : A := e h
theorem P4 {A B : Prop} (h : B) (e : B → A := by intro h; (iterate 4 refine pl ?_); exact h) : A := e h
theorem P5 {A B : Prop} (h : B) (e : B → A := by intro h; (iterate 5 refine pl ?_); exact h) : A := e h
theorem P6 {A B : Prop} (h : B) (e : B → A := by intro h; (iterate 6 refine pl ?_); exact h) : A := e h
theorem P7 {A B : Prop} (h : B) (e : B → A := by intro h; (iterate 7 refine pl ?_); exact h) : A := e h
theorem P8 {A B : Prop} (h : B) (e : B → A := by intro h; (iterate 8 refine pl ?_); exact h) : A := e h
theorem P9 {A B : Prop} (h : B) (e : B → A := by intro h; (iterate 9 refine pl ?_); exact h) : A := e h
theorem P10 {A B : Prop} (h : B) (e : B → A := by intro h; (iterate 10 refine pl ?_); exact h) : A := e h
theorem P11 {A B : Prop} (h : B) (e : B → A := by intro h; (iterate 11 refine pl ?_); exact h) : A := e h
theorem P12 {A B : Prop} (h : B) (e : B → A := by intro h; (iterate 12 refine pl ?_); exact h) : A := e h
theorem P13 {A B : Prop} (h : B) (e : B → A := by intro h; (iterate 13 refine pl ?_); exact h) : A := e h
theorem P14 {A B : Prop} (h : B) (e : B → A := by intro h; (iterate 14 refine pl ?_); exact h) : A := e h
theorem P15 {A B : Prop} (h : B) (e : B → A := by intro h; (iterate 15 refine pl ?_); exact h) : A := e h
theorem P16 {A B : Prop} (h : B) (e : B → A := by intro h; (iterate 16 refine pl ?_); exact h) : A := e h
theorem F2 {A B : Prop} (h : B) (e : B → A := by intro h; (iterate 2 refine pn false ?_); exact h) : A := e h
theorem F3 {A B : Prop} (h : B) (e : B → A := by intro h; (iterate 3 refine pn false ?_); exact h) : A := e h
theorem F4 {A B : Prop} (h : B) (e : B → A := by intro h; (iterate 4 refine pn false ?_); exact h) : A := e h
theorem F5 {A B : Prop} (h : B) (e : B → A := by intro h; (iterate 5 refine pn false ?_); exact h) : A := e h
theorem F6 {A B : Prop} (h : B) (e : B → A := by intro h; (iterate 6 refine pn false ?_); exact h) : A := e h
theorem F7 {A B : Prop} (h : B) (e : B → A := by intro h; (iterate 7 refine pn false ?_); exact h) : A := e h
theorem F8 {A B : Prop} (h : B) (e : B → A := by intro h; (iterate 8 refine pn false ?_); exact h) : A := e h
theorem trv {A : Prop} (e : A := by first | rfl | trivial) : A := e

def cellsAll (w : World) (b : Nat) : Nat → List Value → Prop
  | _, [] => True
  | i, x :: l => w.cell? ⟨b, i, none⟩ = some x ∧ cellsAll w b (i + 1) l
theorem cellsAll_of {w : World} {b : Nat} : ∀ (l : List Value) (i : Nat), (∀ j v, l[j]? = some v → w.cell? ⟨b, i + j, none⟩ = some v) → cellsAll w b i l := by
  intro l
  induction l with
  | nil => intro i _; trivial
  | cons x l ih => exact fun i h => ⟨h 0 x rfl, ih (i + 1) fun j v hv => by rw [show i + 1 + j = i + (j + 1) by omega]; exact h (j + 1) v (by simpa using hv)⟩
theorem clx {w : World} {b : Nat} {l : List Value} {B : Prop} (k : Cells w b l) (e : cellsAll w b 0 l → B := by intro h; (first | simp only [cellsAll, mC, Nat.zero_add, Nat.reduceAdd, and_true] at h | simp only [cellsAll, Nat.zero_add, Nat.reduceAdd, and_true] at h); exact h) : B :=
  e (cellsAll_of l 0 fun j v hv => by rw [Nat.zero_add]; exact k.2.1 j v hv)

structure PA (w w' : World) (A T : Prop) : Prop where
  go : Below w.heap.size w w' → T → A
theorem PA.n {w w' : World} {A : Prop} : PA w w' A A := ⟨fun _ h => h⟩
theorem PA.k {w w' : World} {A T : Prop} {b : Nat} {l : List Value} (e : PA w w' A T) : PA w w' (Cells w b l → A) (Cells w' b l → T) := ⟨fun hb h k => e.go hb (h (k.at hb))⟩
theorem PA.kq {w w' : World} {A T : Prop} {b : Nat} {l : List Value} (e : PA w w' A T) : PA w w' (Cells w b l → A) (Cells w' b l → b < w'.heap.size → T) := ⟨fun hb h k => e.go hb (h (k.at hb) (k.at hb).1)⟩
theorem PA.q {w w' : World} {A T : Prop} {b : Nat} (e : PA w w' A T) : PA w w' (b < w.heap.size → A) (b < w'.heap.size → T) := ⟨fun hb h k => e.go hb (h (Nat.lt_of_lt_of_le k hb.size))⟩
theorem PA.h {w w' w0 : World} {Bs : List Nat} {A T : Prop} (e : PA w w' A T) : PA w w' (Hid (OldB Bs w0 w) → A) (Hid (OldB Bs w0 w') → T) := ⟨fun hb h k => e.go hb (h (bE k hb))⟩
theorem zA {w w' : World} {A T : Prop} (hb : Below w.heap.size w w') (h : T) (e : PA w w' A T := by repeat (first | with_reducible apply PA.k | with_reducible apply PA.q | with_reducible apply PA.h | exact PA.n)) : A := e.go hb h
theorem uA {w w' : World} {A T : Prop} (hb : Below w.heap.size w w') (h : T) (e : PA w w' A T := by repeat (first | with_reducible apply PA.kq | with_reducible apply PA.h | exact PA.n)) : A := e.go hb h
structure PO (Bs : List Nat) (w w' : World) (A T : Prop) : Prop where
  go : OldB Bs w w' → T → A
theorem PO.n {Bs : List Nat} {w w' : World} {A : Prop} : PO Bs w w' A A := ⟨fun _ h => h⟩
theorem PO.k {Bs : List Nat} {w w' : World} {A T : Prop} {b : Nat} {l : List Value} (hn : b ∉ Bs) (e : PO Bs w w' A T) : PO Bs w w' (Cells w b l → A) (Cells w' b l → T) := ⟨fun hb h k => e.go hb (h (k.oldB hb hn))⟩
theorem PO.kq {Bs : List Nat} {w w' : World} {A T : Prop} {b : Nat} {l : List Value} (hn : b ∉ Bs) (e : PO Bs w w' A T) : PO Bs w w' (Cells w b l → A) (Cells w' b l → b < w'.heap.size → T) := ⟨fun hb h k => e.go hb (h (k.oldB hb hn) (k.oldB hb hn).1)⟩
theorem PO.q {Bs : List Nat} {w w' : World} {A T : Prop} {b : Nat} (e : PO Bs w w' A T) : PO Bs w w' (b < w.heap.size → A) (b < w'.heap.size → T) := ⟨fun hb h k => e.go hb (h (Nat.lt_of_lt_of_le k hb.size))⟩
theorem PO.h {Cs Bs : List Nat} {w w' w0 : World} {A T : Prop} (hc : ∀ c ∈ Cs, w0.heap.size ≤ c ∨ c ∈ Bs) (e : PO Cs w w' A T) : PO Cs w w' (Hid (OldB Bs w0 w) → A) (Hid (OldB Bs w0 w') → T) := ⟨fun hb h k => e.go hb (h (mO k hb hc))⟩
theorem zO {Bs : List Nat} {w w' : World} {A T : Prop} (hb : OldB Bs w w') (h : T) (e : PO Bs w w' A T := by repeat (first | with_reducible apply PO.k (by first | (simp; done) | (simp; omega)) | with_reducible apply PO.q | with_reducible apply PO.h (by simp; try omega) | exact PO.n)) : A := e.go hb h
theorem uO {Bs : List Nat} {w w' : World} {A T : Prop} (hb : OldB Bs w w') (h : T) (e : PO Bs w w' A T := by repeat (first | with_reducible apply PO.kq (by first | (simp; done) | (simp; omega)) | with_reducible apply PO.h (by simp; try omega) | exact PO.n)) : A := e.go hb h
theorem sto {P : Program} {ops : Array Oper} {n : Nat} {K : (Nat → Value) → World → Prop} {os : List Oper} {s : Nat → Value} {w wX : World} {b : Nat} {l L L' : List Value} (k : Cells w b l) (h : ∀ w', Cells w' b L' → OldB [b] w w' → listF P ops n K os s w')
    (e : Cells w b l → Cells wX b L := by intro k; (repeat (first | with_reducible exact k | apply Cells.set)))
    (hL : L = L' := by ((first | simp only [stC, mC, tC, List.set_cons_zero, List.set_cons_succ] | simp only [stC, mC, List.set_cons_zero, List.set_cons_succ] | simp only [stC, List.set_cons_zero, List.set_cons_succ] | simp only [List.set_cons_zero, List.set_cons_succ] | skip); first | done | rfl))
    (ho : OldB [b] w wX := by repeat (first | with_reducible exact OldB.refl _ _ | refine OldB.set ?_ (by simp))) : listF P ops n K os s wX := h wX (hL ▸ e k) ho

theorem rgQ {P : Program} {id : Nat} {l : List Oper} {n : Nat} {ds : List Deferred} {Q : Exit → Act → World → Prop} {s : Nat → Value} {w : World} (k : Nat) (vs : List (Ad → Value))
    (hw : walkR P (List.replicate k (.q [])) l.toArray n w.drew [] [] (fun s w => Q .normal (mkA n s ds) w) 0 l (List.replicate k (.q [])) vs (List.replicate k fun _ => []) (fun _ => s) (fun _ r => ([] : List (List Value)).getD (r - l.length) []))
    (hdep : depR l.length (Region.before l.toArray) 0 vs (List.replicate k fun _ => []))
    (hm : P.follows .mixedOrders = true := by kernel_rfl) (hb : backB l.toArray = true := by kernel_rfl) (hdn : dstB l.toArray (List.range n) = true := by kernel_rfl) (hchk : chkR l (List.replicate k (.q [])) ([] : List Nat).length = true := by kernel_rfl) (hrs : rsOk (List.replicate k (.q [])) l.length ([] : List Nat).length [] = true := by kernel_rfl) : (Code.region id l.toArray true).wp P Q (mkA n s ds) w :=
  regionR_F [] [] [] _ vs _ hm hb hdn hchk hrs List.nodup_nil bc_nil hw hdep
theorem rgI {P : Program} {m : Nat} {ρ : Option Nat} {id : Nat} {l : List Oper} {n : Nat} {ds : List Deferred} {Q : Exit → Act → World → Prop} {s : Nat → Value} {w : World} (k : Nat) (vs : List (Ad → Value))
    (hw : walkR P (List.replicate k (.q [])) l.toArray n w.drew [] [] (fun s w => Q .normal (mkA n s ds) w) 0 l (List.replicate k (.q [])) vs (List.replicate k fun _ => []) (fun _ => s) (fun _ r => ([] : List (List Value)).getD (r - l.length) []))
    (hdep : depR l.length (Region.before l.toArray) 0 vs (List.replicate k fun _ => []))
    (hq : ¬ LetsOut Q := by (repeat (first | refine out_then ?_ | refine out_inB ?_)); rintro ⟨_, _, h, _⟩; rcases h with ⟨h, _⟩ | ⟨h, _⟩ <;> cases h)
    (hm : P.follows .mixedOrders = true := by kernel_rfl) (hb : backB l.toArray = true := by kernel_rfl) (hdn : dstB l.toArray (List.range n) = true := by kernel_rfl) (hchk : chkR l (List.replicate k (.q [])) ([] : List Nat).length = true := by kernel_rfl) (hrs : rsOk (List.replicate k (.q [])) l.length ([] : List Nat).length [] = true := by kernel_rfl) (hnd : noDefer l = true := by rfl) : (Code.region id l.toArray true).wpIn (Fw ρ) m P Q (mkA n s ds) w :=
  regionR_FI [] [] [] _ vs _ hm hb hdn hchk hrs List.nodup_nil bc_nil hw hdep hq hnd
theorem dA {A : Prop} (e : A := by (repeat refine dR ?_); exact depR_nil) : A := e

end Go.Proofs.YtleknidlgmmgbaaGreat
