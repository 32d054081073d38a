/- TwinOften. -/
import Derived.Test.YtleknidlgmmgbaaGreattoW51
import Derived.Test.YtleknidlgmmgbaaGreattoR7
import Derived.Test.YtleknidlgmmgbaaGreattoT10
import Derived.Test.YtleknidlgmmgbaaGreattoCZ
set_option linter.all false
namespace Go.Proofs.YtleknidlgmmgbaaGreat

open Go.RowKit


theorem mem_keep {α : Type} [DecidableEq α] {U : List α} {k : Nat} {u : α} (h : u ∈ U.take k) : decide (u ∈ U.take (k + 1)) = true := decide_eq_true (by
  obtain ⟨t, ht⟩ := List.take_prefix_take_left (l := U) (show k ≤ k + 1 by omega)
  rw [← ht]; exact List.mem_append_left _ h)
theorem unt_next {U : List Unt} {k : Nat} (hk : k < U.length) {v u : Unt} (hv : U[k] = v) (h : u ∉ U.take k) : decide (v.mach = u.mach ∧ v.unit.toList = u.unit.toList) = decide (u ∈ U.take (k + 1)) := by
  rw [List.take_succ_eq_append_getElem hk, hv, decide_eq_decide, ← eq_unt, List.mem_append, List.mem_singleton]
  constructor
  · rintro rfl; exact .inr rfl
  · rintro (g | g)
    · exact absurd g h
    · exact g.symm
theorem ent_next {U : List Ent} {k : Nat} (hk : k < U.length) {v u : Ent} (hv : U[k] = v) (h : u ∉ U.take k) : decide (v.num = u.num ∧ v.mach = u.mach ∧ v.day = u.day ∧ v.unit.toList = u.unit.toList) = decide (u ∈ U.take (k + 1)) := by
  rw [List.take_succ_eq_append_getElem hk, hv, decide_eq_decide, ← eq_ent, List.mem_append, List.mem_singleton]
  constructor
  · rintro rfl; exact .inr rfl
  · rintro (g | g)
    · exact absurd g h
    · exact g.symm
theorem sus_len {l : List Ent} {d : Int} {m : Nat} : (susS l d m).length ≤ l.length := by
  have h1 := setL_len (lt := uLess) (l := susL (mergeS l) d m) (out := [])
  have h2 : (susL (mergeS l) d m).length ≤ (mergeS l).length := by unfold susL; exact Nat.le_trans (List.length_filter_le _ _) (by simp)
  have h3 := setL_len (lt := soonE) (l := l) (out := []); rw [List.length_nil, Nat.zero_add] at h1 h3; exact Nat.le_trans h1 (Nat.le_trans h2 h3)
theorem susR_bad {l : List Ent} {d m : Int} {U : List Unt} {e : Int} (h : susR l d m = (U, e)) (he : ¬ e = 0) : U = [] := by
  unfold susR at h
  by_cases h1 : mergeErr [l] ≠ 0
  · rw [if_pos h1] at h; exact (congrArg Prod.fst h).symm
  · rw [if_neg h1] at h
    by_cases h2 : inI d 1 40001 = false ∨ inI m 1 60 = false
    · rw [if_pos h2] at h; exact (congrArg Prod.fst h).symm
    · rw [if_neg h2] at h; exact absurd (congrArg Prod.snd h).symm he
theorem susR_good {l : List Ent} {d m : Int} {U : List Unt} (h : susR l d m = (U, 0)) : mergeErr [l] = 0 ∧ (1 ≤ d ∧ d ≤ 40001) ∧ (1 ≤ m ∧ m ≤ 60) ∧ U = susS l d m.toNat := by
  unfold susR at h
  by_cases h1 : mergeErr [l] ≠ 0
  · rw [if_pos h1] at h; exact absurd (congrArg Prod.snd h) h1
  · rw [if_neg h1] at h
    by_cases h2 : inI d 1 40001 = false ∨ inI m 1 60 = false
    · rw [if_pos h2] at h; exact absurd (congrArg Prod.snd h) (by simp)
    · rw [if_neg h2] at h
      refine ⟨Decidable.not_not.1 h1, (inI_iff _ _ _).1 ?_, (inI_iff _ _ _).1 ?_, (congrArg Prod.fst h).symm⟩
      · cases g : inI d 1 40001 with
        | true => rfl
        | false => exact absurd (.inl g) h2
      · cases g : inI m 1 60 with
        | true => rfl
        | false => exact absurd (.inr g) h2

theorem XV7b {A B1 B2 : Prop} (hX1 : B1) (hX2 : B2) (e : B1 → B2 → A := by intro hX1 hX2; exact walkR_no (b' := true) (by rfl) (by rfl) (by decide) (fun X hX => hX1) (by rfl) hX2) : A := e hX1 hX2
theorem XV7c {A B1 : Prop} (hX1 : B1) (e : B1 → A := by intro hX1; exact regionQ_F (Below w51.heap.size w51) (by kernel_rfl) (by kernel_rfl) (Below.refl _ _).drew hX1) : A := e hX1
set_option maxRecDepth 100000 in
set_option maxHeartbeats 32000000 in
theorem often_walk (a : Option Addr) (c : Nat) (l : List Ent) (f g d m y0 y1 : Int) (w : World) (hR : RdEn w a l) (hl : l.length ≤ 9223372036854775807) (hun : ∀ y ∈ l, y.unit.size ≤ 9223372036854775807) (hd : -9223372036854775808 ≤ d ∧ d ≤ 9223372036854775807) (hm : -9223372036854775808 ≤ m ∧ m ≤ 9223372036854775807) (hy0 : 0 ≤ y0 ∧ y0 ≤ 255) (hy1 : 0 ≤ y1 ∧ y1 ≤ 255) :
    Calls Tryz.prog 9 #[.slice a l.length c, .agg #[.int .u8 f, .int .u8 g, .int .i64 d, .int .i64 m], .agg #[.int .u8 y0, .int .u8 y1]] w (fun e w' => e = .returned (.bool true) ∧ Below w.heap.size w w') := by
 have HR := hid hR; clear hR; have Hun := hid hun; clear hun; have w0 : IntKind.i64.wrap y0 = y0 := IntWalk.i64_in _ (by omega); have w1 : IntKind.i64.wrap y1 = y1 := IntWalk.i64_in _ (by omega); obtain ⟨⟨U, e1⟩, hU⟩ : ∃ z, susR l d m = z := ⟨_, rfl⟩; have HU := hid hU; clear hU
 refine enter_F Tryz.func9 rfl Tryz.ntmps9 (by simp) ?_
 intro s0 hs; have sl0 : s0 0 = .slice a l.length c := hs 0 (by simp); have sl1 : s0 1 = .agg #[.int .u8 f, .int .u8 g, .int .i64 d, .int .i64 m] := hs 1 (by simp); have sl2 : s0 2 = .agg #[.int .u8 y0, .int .u8 y1] := hs 2 (by simp); clear hs; have HB := hid (OldB.refl [] w)
 refine nr ?_; intros; refine pa (fun w1 B4 hB kb4 hb => ?_); have gb4 := HB.out.gB hB; have eb4 := eB hB; clear hB; replace HB := bE HB hb; clear hb; have qb4 := kb4.1; refine pa (fun w3 B5 hB kb5 hb => ?_); have gb5 := HB.out.gB hB; have ob4_b5 := oB qb4 hB; have eb5 := eB hB; clear hB; clear qb4; revert HB; revert kb4; refine uA hb ?_; clear hb; intro kb4 qb4 HB; have qb5 := kb5.1; refine pl ?_; clear sl1 sl2; refine lx [4,5] ?_; clear sl0; intro _ sl0 sl4 sl5; refine lr ?_; intros; refine P2 ?_; have cb4 := clx kb4
 refine P3 ?_
 refine cal (suspects_v a c l d m U e1 _ (Rd.oldB HR.out HB.out (by simp)) hl Hun.out HU.out) ?_; rintro e _ ⟨a7, c7, rfl, hr7, -, hb7⟩; refine ⟨_, rfl, ?_⟩; clear cb4; clear qb4 qb5; revert HB; revert kb5; revert kb4; refine uA hb7 ?_; clear hb7; intro kb4 qb4 kb5 qb5 HB
 refine P5 ?_
 refine lx [7,8] ?_; clear sl0 sl4 sl5; intro _ sl0 sl4 sl5 sl7 sl8; refine lr ?_; intros; refine P2 ?_; clear sl8; refine lx [28] ?_; clear sl0 sl4 sl5 sl7; intro _ sl0 sl4 sl5 sl7 sl28; refine ln ?_; intros
 refine cond_E sl28 (by decide) ?_ ?_ <;> (clear sl28; intro h28 sl28)
 ·skip
  have h9 : ¬ e1 = 0 := by simpa using h28
  obtain rfl := susR_bad HU.out h9
  refine nr ?_; intros
  refine P4 ?_
  refine listF_yes rfl rfl (by decide) ?_ (fun K' hK => ?_); (focus (go_simp; done)); unfold opF; go_simp; refine (awake_any _).mono ?_; rintro e _ ⟨rfl, hb11⟩; refine ⟨_, rfl, hK _ _ ?_⟩; clear hK K'; clear qb4 qb5; replace hr7 := Rd.at hr7 hb11; revert HB; revert kb5; revert kb4; refine uA hb11 ?_; clear hb11; intro kb4 qb4 kb5 qb5 HB; refine P2 ?_; clear sl0 sl4 sl5 sl7 sl28; refine lx [6] ?_; intro _ sl6; refine ln ?_; intros
  refine ret_F _ (res_t Tryz.results9 ((getD_F (by decide)).trans sl6)) ?_; exact ⟨rfl, HB.out.toBelow⟩
 ·skip
  have h9 : e1 = 0 := by simpa using h28
  subst h9; obtain ⟨hme, hd1, hm1, hUs⟩ := susR_good HU.out; obtain ⟨mm, rfl⟩ : ∃ n : Nat, m = n := ⟨m.toNat, by omega⟩; have HUs := hid (show U = susS l d mm from hUs); have hl60 := (merge_one hme).2.2.1; obtain ⟨d2, hd2⟩ : ∃ z, z = min 40001 (d + y0) := ⟨_, rfl⟩; obtain ⟨m2, hm2⟩ : ∃ n : Nat, (n : Int) = max 1 ((mm : Int) - y1) := ⟨(max 1 ((mm : Int) - y1)).toNat, by omega⟩; have w2 : IntKind.i64.wrap (d + y0) = d + y0 := IntWalk.i64_in _ (by omega); have w3 : IntKind.i64.wrap ((mm : Int) - y1) = (mm : Int) - y1 := IntWalk.i64_in _ (by omega); obtain ⟨U2, hU2⟩ : ∃ z, susS l d2 m2 = z := ⟨_, rfl⟩; have HU2 := hid (show susR l d2 (m2 : Int) = (U2, 0) by rw [sus_ok hme ((inI_iff _ _ _).2 (by omega)) ((inI_iff _ _ _).2 (by omega)), hU2]); have Hlo := hid (show ∀ u ∈ U, u ∈ U2 ∧ mm ≤ fcU l u l.length from fun u hu => by rw [HUs.out] at hu; rw [← hU2]; exact often_fc (by omega) (by omega) hu); have HUl := hid (show U.length ≤ 9223372036854775807 ∧ U2.length ≤ 9223372036854775807 from ⟨by rw [HUs.out]; exact Nat.le_trans sus_len (by omega), by rw [← hU2]; exact Nat.le_trans sus_len (by omega)⟩)
  have hul := HUl.out; have Hd2 := hid hd2; have Hm2 := hid hm2; clear hme hUs hU2 hd2 hm2
  refine nr ?_; intros; refine P2 ?_; have cb4 := clx kb4; refine P2 ?_; have cb5 := clx kb5
  refine P11 ?_
  clear sl28; refine lx [36,43,50] ?_; clear sl0 sl4 sl5 sl7; intro s13 sl0 sl4 sl5 sl7 sl36 sl43 sl50
  have h43 : s13 43 = .int .i64 d2 := by rw [sl43, Hd2.out]; first | done | (congr 1; first | rfl | (split <;> omega) | omega)
  have h50 : s13 50 = .int .i64 (m2 : Int) := by have hm2 := Hm2.out; rw [sl50, hm2]; first | done | (congr 1; first | rfl | (split <;> omega) | omega)
  clear sl43 sl50; have sl43 := h43; have sl50 := h50; clear h43 h50; refine cal (suspects_v a c l d2 (m2 : Int) U2 0 _ (Rd.oldB HR.out HB.out (by simp)) hl Hun.out HU2.out) ?_; rintro e w14 ⟨a9, c9, rfl, hr9, -, hb15⟩; refine ⟨_, rfl, ?_⟩; clear cb4 cb5; clear qb4 qb5; replace hr7 := Rd.at hr7 hb15; revert HB; revert kb5; revert kb4; refine uA hb15 ?_; clear hb15; intro kb4 qb4 kb5 qb5 HB
  refine P5 ?_
  clear sl5 sl36 sl43 sl50; refine lx [9,10] ?_; clear sl0 sl4 sl7; intro _ sl0 sl4 sl7 sl9 sl10; refine lr ?_; intros; refine P2 ?_; clear sl10; refine lx [55] ?_; clear sl0 sl4 sl7 sl9; intro _ sl0 sl4 sl7 sl9 sl55; refine ln ?_; intros
  refine cond_f ?_
  refine nr ?_; intros; refine pl ?_; clear sl55; refine lx [11] ?_; clear sl0 sl4 sl7 sl9; intro s18 sl0 sl4 sl7 sl9 sl11; refine ln ?_; intros
  have hc0_0 := hid sl0; have hc0_4 := hid sl4; have hc0_7 := hid sl7; have hc0_9 := hid sl9; refine loop_F (n := 142) (fun kJ sJ wJ => ∃ (i : Nat), kJ = U.length - i ∧ sJ 11 = .int .i64 (i : Int) ∧ sJ 0 = s18 0 ∧ sJ 4 = s18 4 ∧ sJ 7 = s18 7 ∧ sJ 9 = s18 9 ∧ OldB [] w14 wJ ∧ i ≤ U.length) ⟨0, rfl, (by first | exact sl11 | (rw [sl11]; go_num) | (rw [sl11]; rfl)), rfl, rfl, rfl, rfl, OldB.refl _ _, Nat.zero_le _⟩ ?_; clear sl11; rintro kJ s19 w20 ⟨i, rfl, sl11, e0, e4, e7, e9, hb21, hil⟩; replace sl0 := e0.trans sl0; clear e0; replace sl4 := e4.trans sl4; clear e4; replace sl7 := e7.trans sl7; clear e7; replace sl9 := e9.trans sl9; clear e9; have hoJ := hb21; clear qb4 qb5; replace hr7 := Rd.oldB hr7 hb21 (by simp); replace hr9 := Rd.oldB hr9 hb21 (by simp); revert HB; revert kb5; revert kb4; refine uO hb21 ?_; clear hb21; intro kb4 qb4 kb5 qb5 HB; have HoJ := hid hoJ; clear hoJ; have HL22 := HoJ; clear HoJ
  refine nr ?_; intros
  refine P4 ?_
  refine lx [59] ?_; clear sl0 sl4 sl7 sl9 sl11; intro _ sl0 sl4 sl7 sl9 sl11 sl59; refine ln ?_; intros
  refine cond_E sl59 (by decide) ?_ ?_ <;> (clear sl59; intro h59 sl59)
  ·skip
   have hi : i < U.length := by simpa using h59
   have hii : (i : Int) < U.length := by omega
   obtain ⟨bu, ou, hau, hbu, c0, c1⟩ := RdUn.ne hr7 hi; obtain ⟨u, hu⟩ : ∃ y, U[i] = y := ⟨_, rfl⟩; rw [hu] at c0 c1; have Hu := hid hu; have Hau := hid hau; rw [Hau.out] at sl7; have HuU := hid (Hlo.out u (by rw [← hu]; exact List.getElem_mem hi)); have hfc := HuU.out.2; clear hu hau
   refine nr ?_; intros; refine pl ?_; clear sl59; refine lx [12] ?_; clear sl0 sl4 sl7 sl9 sl11; intro _ sl0 sl4 sl7 sl9 sl11 sl12; refine lr ?_; intros; refine pl ?_; refine lx [13] ?_; clear sl0 sl4 sl7 sl9 sl11 sl12; intro s25 sl0 sl4 sl7 sl9 sl11 sl12 sl13; refine ln ?_; intros
   have hc1_0 := hid sl0; have hc1_4 := hid sl4; have hc1_7 := hid sl7; have hc1_9 := hid sl9; have hc1_11 := hid sl11; refine loop_F (n := 142) (fun kJ sJ wJ => ∃ (k : Nat), kJ = U2.length - k ∧ sJ 12 = .bool (decide (u ∈ U2.take k)) ∧ sJ 13 = .int .i64 (k : Int) ∧ sJ 0 = s25 0 ∧ sJ 4 = s25 4 ∧ sJ 7 = s25 7 ∧ sJ 9 = s25 9 ∧ sJ 11 = s25 11 ∧ OldB [] w20 wJ ∧ k ≤ U2.length) ⟨0, rfl, (by rw [sl12]; simp), (by first | exact sl13 | (rw [sl13]; go_num) | (rw [sl13]; rfl)), rfl, rfl, rfl, rfl, rfl, OldB.refl _ _, Nat.zero_le _⟩ ?_; clear sl12 sl13; rintro kJ s26 w27 ⟨k, rfl, sl12, sl13, e0, e4, e7, e9, e11, hb28, hkl⟩; replace sl0 := e0.trans sl0; clear e0; replace sl4 := e4.trans sl4; clear e4; replace sl7 := e7.trans sl7; clear e7; replace sl9 := e9.trans sl9; clear e9; replace sl11 := e11.trans sl11; clear e11; have hoJ := hb28; clear qb4 qb5; replace hr7 := Rd.oldB hr7 hb28 (by simp); replace hr9 := Rd.oldB hr9 hb28 (by simp); revert HB; revert HL22; revert kb5; revert kb4; refine uO hb28 ?_; clear hb28; intro kb4 qb4 kb5 qb5 HL22 HB; have HoJ := hid hoJ; clear hoJ; have HL29 := HoJ; clear HoJ
   refine nr ?_; intros
   refine P4 ?_
   refine lx [65] ?_; clear sl0 sl4 sl7 sl9 sl11 sl12 sl13; intro _ sl0 sl4 sl7 sl9 sl11 sl12 sl13 sl65; refine ln ?_; intros
   refine cond_E sl65 (by decide) ?_ ?_ <;> (clear sl65; intro h65 sl65)
   ·skip
    have hk : k < U2.length := by simpa using h65
    have hkk : (k : Int) < U2.length := by omega
    obtain ⟨bv, ov, hav, hbv, d0, d1⟩ := RdUn.ne hr9 hk; obtain ⟨v, hv⟩ : ∃ y, U2[k] = y := ⟨_, rfl⟩; rw [hv] at d0 d1; have Hv := hid hv; have Hav := hid hav; rw [Hav.out] at sl9; clear hv hav
    refine zx ?_; intros
    by_cases hin : u ∈ U2.take k
    ·skip
     rw [decide_eq_true hin] at sl12; have cb4 := clx kb4; have cb5 := clx kb5; refine regionR_F [] [] [] [.q [], .q [], .no, .no, .no, .no, .no, .no, .no, .no] [?v18_0, ?v18_1, fun _ => undef, fun _ => undef, fun _ => undef, fun _ => undef, fun _ => undef, fun _ => undef, fun _ => undef, fun _ => undef] [fun _ => [], fun _ => [], fun _ => [], fun _ => [], fun _ => [], fun _ => [], fun _ => [], fun _ => [], fun _ => [], fun _ => []] (by kernel_rfl) (by kernel_rfl) (by kernel_rfl) (by kernel_rfl) (by kernel_rfl) (by first | exact List.nodup_nil | exact List.nodup_singleton _ | (simp; done) | (simp; omega)) bc_nil ?walk18 ?dep18
     case walk18 =>
      refine rq ?_; refine rq ?_; refine XV7b ?_ ?_
      · go_simp
      refine XV7b ?_ ?_
      · go_simp
      refine XV7b ?_ ?_
      · go_simp
      refine XV7b ?_ ?_
      · go_simp
      refine XV7b ?_ ?_
      · go_simp
      refine XV7b ?_ ?_
      · go_simp
      refine XV7b ?_ ?_
      · go_simp
      refine XV7b ?_ ?_
      · go_simp
      refine walkR_nil (fun X hX w31 hwz hcz => ?_); clear hX hcz
      (try clear X)
      skip; have hb32 := hwz.unDrew; clear hwz; clear cb4 cb5; clear qb4 qb5; replace hr7 := Rd.oldB hr7 hb32 (by simp); replace hr9 := Rd.oldB hr9 hb32 (by simp); revert HB; revert HL29; revert HL22; revert kb5; revert kb4; refine uO hb32 ?_; clear hb32; intro kb4 qb4 kb5 qb5 HL22 HL29 HB; refine pn true ?_; refine P2 ?_; clear sl12 sl65; refine lx [12,70,71,72,73,74,75,76,77] ?_; clear sl0 sl4 sl7 sl9 sl11 sl13; intro _ sl0 sl4 sl7 sl9 sl11 sl13 sl12 sl70 sl71 sl72 sl73 sl74 sl75 sl76 sl77; refine lr ?_; intros
      refine P3 ?_
      clear sl13; refine lx [13] ?_; clear sl0 sl4 sl7 sl9 sl11 sl12 sl70 sl71 sl72 sl73 sl74 sl75 sl76 sl77; intro _ sl0 sl4 sl7 sl9 sl11 sl12 sl70 sl71 sl72 sl73 sl74 sl75 sl76 sl77 sl13; refine ln ?_; intros
      rw [← Hav.out] at sl9; refine ⟨_, _, rfl, ?_, k + 1, rfl, (by rw [sl12, mem_keep hin]), (rL sl13), (sl0.trans hc1_0.out.symm), (sl4.trans hc1_4.out.symm), (sl7.trans hc1_7.out.symm), (sl9.trans hc1_9.out.symm), (sl11.trans hc1_11.out.symm), HL29.out, by omega⟩
      omega
     case dep18 => exact dA
    ·skip
     rw [decide_eq_false hin] at sl12; obtain ⟨b7, o7, ha7, hb7, c0', c1'⟩ := RdUn.ne hr7 hi
     cases Hau.out.symm.trans ha7
     rw [Hu.out] at c0' c1'; have cb4 := clx kb4; have cb5 := clx kb5; refine rgQ 10 [?_,?_,?_,?_,?_,?_,?_,?_,?_,?_] ?walk19 ?dep19
     case walk19 =>
      refine rq ?_; refine rq ?_
      iterate 8 refine rqy ?_
      refine walkR_nil (fun X hX w35 hwz hcz => ?_); clear hX hcz
      (try clear X)
      skip; have hb36 := hwz.unDrew; clear hwz; clear cb4 cb5; clear qb4 qb5; replace hr7 := Rd.oldB hr7 hb36 (by simp); replace hr9 := Rd.oldB hr9 hb36 (by simp); revert HB; revert HL29; revert HL22; revert kb5; revert kb4; refine uO hb36 ?_; clear hb36; intro kb4 qb4 kb5 qb5 HL22 HL29 HB; refine listF_yes rfl rfl (by decide) ?_ (fun K' hK => ?_); (focus (go_simp; done)); unfold opF; go_simp
      suffices hs : K' (.bool (decide (v.mach = u.mach ∧ v.unit.toList = u.unit.toList))) w35 by (by_cases q0 : v.mach = u.mach <;> by_cases q1 : v.unit.toList = u.unit.toList <;> simp [q0, q1] at hs ⊢ <;> exact hs)
      refine hK _ _ ?_; clear hK K'; refine P2 ?_; clear sl12 sl65; refine lx [12,70,71,72,73,74,75,76,77,78] ?_; clear sl0 sl4 sl7 sl9 sl11 sl13; intro _ sl0 sl4 sl7 sl9 sl11 sl13 sl12 sl70 sl71 sl72 sl73 sl74 sl75 sl76 sl77 sl78; refine lr ?_; intros
      refine P3 ?_
      clear sl13; refine lx [13] ?_; clear sl0 sl4 sl7 sl9 sl11 sl12 sl70 sl71 sl72 sl73 sl74 sl75 sl76 sl77 sl78; intro _ sl0 sl4 sl7 sl9 sl11 sl12 sl70 sl71 sl72 sl73 sl74 sl75 sl76 sl77 sl78 sl13; refine ln ?_; intros
      rw [← Hav.out] at sl9; refine ⟨_, _, rfl, ?_, k + 1, rfl, (by rw [sl12]; first | rw [unt_next hk Hv.out hin] | (simp only [← Bool.decide_and]; rw [unt_next hk Hv.out hin])), (rL sl13), (sl0.trans hc1_0.out.symm), (sl4.trans hc1_4.out.symm), (sl7.trans hc1_7.out.symm), (sl9.trans hc1_9.out.symm), (sl11.trans hc1_11.out.symm), HL29.out, by omega⟩
      omega
     case dep19 => exact dA
   ·skip
    have hk : k = U2.length := by have h := h65; simp at h; omega
    rw [hk, List.take_length, decide_eq_true HuU.out.1] at sl12
    refine zx ?_; intros
    clear HL29; clear hc1_0 hc1_4 hc1_7 hc1_9 hc1_11; refine region_F ?_; refine pl ?_; clear sl13 sl65; refine lx [14] ?_; clear sl0 sl4 sl7 sl9 sl11 sl12; intro _ sl0 sl4 sl7 sl9 sl11 sl12 sl14; refine lr ?_; intros; refine pl ?_; refine lx [15] ?_; clear sl0 sl4 sl7 sl9 sl11 sl12 sl14; intro s42 sl0 sl4 sl7 sl9 sl11 sl12 sl14 sl15; refine ln ?_; intros
    have hc2_0 := hid sl0; have hc2_4 := hid sl4; have hc2_7 := hid sl7; have hc2_9 := hid sl9; have hc2_11 := hid sl11; have hc2_12 := hid sl12; refine loop_F (n := 142) (fun kJ sJ wJ => ∃ (k : Nat), kJ = l.length - k ∧ sJ 14 = .int .i64 (fcU l u k : Int) ∧ sJ 15 = .int .i64 (k : Int) ∧ sJ 0 = s42 0 ∧ sJ 4 = s42 4 ∧ sJ 7 = s42 7 ∧ sJ 9 = s42 9 ∧ sJ 11 = s42 11 ∧ sJ 12 = s42 12 ∧ OldB [] w27 wJ ∧ k ≤ l.length) ⟨0, rfl, (by rw [sl14]; rfl), (by first | exact sl15 | (rw [sl15]; go_num) | (rw [sl15]; rfl)), rfl, rfl, rfl, rfl, rfl, rfl, OldB.refl _ _, Nat.zero_le _⟩ ?_; clear sl14 sl15; rintro kJ s43 w44 ⟨k, rfl, sl14, sl15, e0, e4, e7, e9, e11, e12, hb45, hkl⟩; replace sl0 := e0.trans sl0; clear e0; replace sl4 := e4.trans sl4; clear e4; replace sl7 := e7.trans sl7; clear e7; replace sl9 := e9.trans sl9; clear e9; replace sl11 := e11.trans sl11; clear e11; replace sl12 := e12.trans sl12; clear e12; have hoJ := hb45; clear qb4 qb5; replace hr7 := Rd.oldB hr7 hb45 (by simp); replace hr9 := Rd.oldB hr9 hb45 (by simp); revert HB; revert HL22; revert kb5; revert kb4; refine uO hb45 ?_; clear hb45; intro kb4 qb4 kb5 qb5 HL22 HB; have HoJ := hid hoJ; clear hoJ; have HL46 := HoJ; clear HoJ
    refine nr ?_; intros
    refine P4 ?_
    refine lx [83] ?_; clear sl0 sl4 sl7 sl9 sl11 sl12 sl14 sl15; intro _ sl0 sl4 sl7 sl9 sl11 sl12 sl14 sl15 sl83; refine ln ?_; intros
    refine cond_E sl83 (by decide) ?_ ?_ <;> (clear sl83; intro h83 sl83)
    ·skip
     have hk : k < l.length := by simpa using h83
     have hkk : (k : Int) < l.length := by omega
     obtain ⟨bz, oz, haz, hbz, e0, e1, e2, e3⟩ := RdEn.ne (Rd.oldB HR.out HB.out (by simp)) hk; subst haz; obtain ⟨z, hz⟩ : ∃ y, l[k] = y := ⟨_, rfl⟩; rw [hz] at e0 e1 e2 e3; have Hz := hid hz; clear hz
     refine nr ?_; intros; refine pl ?_; clear sl83; refine lx [16] ?_; clear sl0 sl4 sl7 sl9 sl11 sl12 sl14 sl15; intro _ sl0 sl4 sl7 sl9 sl11 sl12 sl14 sl15 sl16; refine lr ?_; intros; refine pl ?_; refine lx [17] ?_; clear sl0 sl4 sl7 sl9 sl11 sl12 sl14 sl15 sl16; intro s49 sl0 sl4 sl7 sl9 sl11 sl12 sl14 sl15 sl16 sl17; refine ln ?_; intros
     have hc3_0 := hid sl0; have hc3_4 := hid sl4; have hc3_7 := hid sl7; have hc3_9 := hid sl9; have hc3_11 := hid sl11; have hc3_12 := hid sl12; have hc3_14 := hid sl14; have hc3_15 := hid sl15; refine loop_F (n := 142) (fun kJ sJ wJ => ∃ (j : Nat), kJ = k - j ∧ sJ 16 = .bool (decide (z ∈ l.take j)) ∧ sJ 17 = .int .i64 (j : Int) ∧ sJ 0 = s49 0 ∧ sJ 4 = s49 4 ∧ sJ 7 = s49 7 ∧ sJ 9 = s49 9 ∧ sJ 11 = s49 11 ∧ sJ 12 = s49 12 ∧ sJ 14 = s49 14 ∧ sJ 15 = s49 15 ∧ OldB [] w44 wJ ∧ j ≤ k) ⟨0, rfl, (by rw [sl16]; simp), (by first | exact sl17 | (rw [sl17]; go_num) | (rw [sl17]; rfl)), rfl, rfl, rfl, rfl, rfl, rfl, rfl, rfl, OldB.refl _ _, Nat.zero_le _⟩ ?_; clear sl16 sl17; rintro kJ s50 w51 ⟨j, rfl, sl16, sl17, e0, e4, e7, e9, e11, e12, e14, e15, hb52, hjk⟩; replace sl0 := e0.trans sl0; clear e0; replace sl4 := e4.trans sl4; clear e4; replace sl7 := e7.trans sl7; clear e7; replace sl9 := e9.trans sl9; clear e9; replace sl11 := e11.trans sl11; clear e11
     replace sl12 := e12.trans sl12; clear e12; replace sl14 := e14.trans sl14; clear e14; replace sl15 := e15.trans sl15; clear e15; have hoJ := hb52; clear qb4 qb5; replace hr7 := Rd.oldB hr7 hb52 (by simp); replace hr9 := Rd.oldB hr9 hb52 (by simp); revert HB; revert HL46; revert HL22; revert kb5; revert kb4; refine uO hb52 ?_; clear hb52; intro kb4 qb4 kb5 qb5 HL22 HL46 HB; have HoJ := hid hoJ; clear hoJ; have HL53 := HoJ; clear HoJ
     refine nr ?_; intros
     refine P3 ?_
     refine lx [88] ?_; clear sl0 sl4 sl7 sl9 sl11 sl12 sl14 sl15 sl16 sl17; intro _ sl0 sl4 sl7 sl9 sl11 sl12 sl14 sl15 sl16 sl17 sl88; refine ln ?_; intros
     refine cond_E sl88 (by decide) ?_ ?_ <;> (clear sl88; intro h88 sl88)
     ·skip
      have hj : j < k := by simpa using h88
      have hjl : j < l.length := by omega
      have hjj : (j : Int) < l.length := by omega
      obtain ⟨x, hx⟩ : ∃ y, l[j] = y := ⟨_, rfl⟩; obtain ⟨b9, o9, ha9, -, f0, f1, f2, f3⟩ := RdEn.ne (Rd.oldB HR.out HB.out (by simp)) hjl
      cases ha9
      rw [hx] at f0 f1 f2 f3; have Hx := hid hx; clear hx
      refine zx ?_; intros
      by_cases hin2 : z ∈ l.take j
      ·skip
       rw [decide_eq_true hin2] at sl16; have cb4 := clx kb4; have cb5 := clx kb5; refine regionR_F [] [] [] [.q [], .q [], .no, .no, .no, .no, .no, .no, .no, .no] [?v20_0, ?v20_1, fun _ => undef, fun _ => undef, fun _ => undef, fun _ => undef, fun _ => undef, fun _ => undef, fun _ => undef, fun _ => undef] [fun _ => [], fun _ => [], fun _ => [], fun _ => [], fun _ => [], fun _ => [], fun _ => [], fun _ => [], fun _ => [], fun _ => []] (by kernel_rfl) (by kernel_rfl) (by kernel_rfl) (by kernel_rfl) (by kernel_rfl) (by first | exact List.nodup_nil | exact List.nodup_singleton _ | (simp; done) | (simp; omega)) bc_nil ?walk20 ?dep20
       case walk20 =>
        refine rq ?_; refine rq ?_; refine XV7b ?_ ?_
        · go_simp
        refine XV7b ?_ ?_
        · go_simp
        refine XV7b ?_ ?_
        · go_simp
        refine XV7b ?_ ?_
        · go_simp
        refine XV7b ?_ ?_
        · go_simp
        refine XV7b ?_ ?_
        · go_simp
        refine XV7b ?_ ?_
        · go_simp
        refine XV7b ?_ ?_
        · go_simp
        refine walkR_nil (fun X hX w55 hwz hcz => ?_); clear hX hcz
        (try clear X)
        skip; have hb56 := hwz.unDrew; clear hwz; clear cb4 cb5; clear qb4 qb5; replace hr7 := Rd.oldB hr7 hb56 (by simp); replace hr9 := Rd.oldB hr9 hb56 (by simp); revert HB; revert HL53; revert HL46; revert HL22; revert kb5; revert kb4; refine uO hb56 ?_; clear hb56; intro kb4 qb4 kb5 qb5 HL22 HL46 HL53 HB; refine pn true ?_; refine P2 ?_; clear sl16 sl88; refine lx [16,93,94,95,96,97,98,99,100] ?_; clear sl0 sl4 sl7 sl9 sl11 sl12 sl14 sl15 sl17; intro _ sl0 sl4 sl7 sl9 sl11 sl12 sl14 sl15 sl17 sl16 sl93 sl94 sl95 sl96 sl97 sl98 sl99 sl100; refine lr ?_; intros
        refine P3 ?_
        clear sl17; refine lx [17] ?_; clear sl0 sl4 sl7 sl9 sl11 sl12 sl14 sl15 sl16 sl93 sl94 sl95 sl96 sl97 sl98 sl99 sl100; intro _ sl0 sl4 sl7 sl9 sl11 sl12 sl14 sl15 sl16 sl93 sl94 sl95 sl96 sl97 sl98 sl99 sl100 sl17; refine ln ?_; intros
        refine ⟨_, _, rfl, ?_, j + 1, rfl, (by rw [sl16, mem_keep hin2]), (rL sl17), (sl0.trans hc3_0.out.symm), (sl4.trans hc3_4.out.symm), (sl7.trans hc3_7.out.symm), (sl9.trans hc3_9.out.symm), (sl11.trans hc3_11.out.symm), (sl12.trans hc3_12.out.symm), (sl14.trans hc3_14.out.symm), (sl15.trans hc3_15.out.symm), HL53.out, by omega⟩
        omega
       case dep20 => exact dA
      ·skip
       rw [decide_eq_false hin2] at sl16; obtain ⟨b8, o8, ha8, hb8, p0, p1, p2, p3⟩ := RdEn.ne (Rd.oldB HR.out HB.out (by simp)) hjl
       cases ha8
       rw [Hx.out] at p0 p1 p2 p3; obtain ⟨b6, o6, ha6, hb6, r0, r1, r2, r3⟩ := RdEn.ne (Rd.oldB HR.out HB.out (by simp)) hk
       cases ha6
       rw [Hz.out] at r0 r1 r2 r3; have cb4 := clx kb4; have cb5 := clx kb5; refine rgQ 10 [?_,?_,?_,?_,?_,?_,?_,?_,?_,?_] ?walk21 ?dep21
       case walk21 =>
        refine rq ?_; refine rq ?_
        iterate 8 refine rqy ?_
        refine walkR_nil (fun X hX w59 hwz hcz => ?_); clear hX hcz
        (try clear X)
        skip; have hb60 := hwz.unDrew; clear hwz; clear cb4 cb5; clear qb4 qb5; replace hr7 := Rd.oldB hr7 hb60 (by simp); replace hr9 := Rd.oldB hr9 hb60 (by simp); revert HB; revert HL53; revert HL46; revert HL22; revert kb5; revert kb4; refine uO hb60 ?_; clear hb60; intro kb4 qb4 kb5 qb5 HL22 HL46 HL53 HB; refine listF_yes rfl rfl (by decide) ?_ (fun K' hK => ?_); (focus (go_simp; done)); unfold opF; go_simp
        suffices hs : K' (.bool (decide (x.num = z.num ∧ x.mach = z.mach ∧ x.day = z.day ∧ x.unit.toList = z.unit.toList))) w59 by (by_cases q0 : x.num = z.num <;> by_cases q1 : x.mach = z.mach <;> by_cases q2 : x.day = z.day <;> by_cases q3 : x.unit.toList = z.unit.toList <;> simp [q0, q1, q2, q3] at hs ⊢ <;> exact hs)
        refine hK _ _ ?_; clear hK K'; refine P2 ?_; clear sl16 sl88; refine lx [16,93,94,95,96,97,98,99,100,101] ?_; clear sl0 sl4 sl7 sl9 sl11 sl12 sl14 sl15 sl17; intro _ sl0 sl4 sl7 sl9 sl11 sl12 sl14 sl15 sl17 sl16 sl93 sl94 sl95 sl96 sl97 sl98 sl99 sl100 sl101; refine lr ?_; intros
        refine P3 ?_
        clear sl17; refine lx [17] ?_; clear sl0 sl4 sl7 sl9 sl11 sl12 sl14 sl15 sl16 sl93 sl94 sl95 sl96 sl97 sl98 sl99 sl100 sl101; intro _ sl0 sl4 sl7 sl9 sl11 sl12 sl14 sl15 sl16 sl93 sl94 sl95 sl96 sl97 sl98 sl99 sl100 sl101 sl17; refine ln ?_; intros
        refine ⟨_, _, rfl, ?_, j + 1, rfl, (by rw [sl16]; first | rw [ent_next hjl Hx.out hin2] | (simp only [← Bool.decide_and]; rw [ent_next hjl Hx.out hin2])), (rL sl17), (sl0.trans hc3_0.out.symm), (sl4.trans hc3_4.out.symm), (sl7.trans hc3_7.out.symm), (sl9.trans hc3_9.out.symm), (sl11.trans hc3_11.out.symm), (sl12.trans hc3_12.out.symm), (sl14.trans hc3_14.out.symm), (sl15.trans hc3_15.out.symm), HL53.out, by omega⟩
        omega
       case dep21 => exact dA
     ·skip
      have hj : j = k := by have h := h88; simp at h; omega
      rw [hj] at sl16
      refine zx ?_; intros
      clear HL53; clear hc3_0 hc3_4 hc3_7 hc3_9 hc3_11 hc3_12 hc3_14 hc3_15
      by_cases hag : z ∈ l.take k
      ·skip
       rw [decide_eq_true hag] at sl16; have Hfc := hid (fc_no (u := u) hk Hz.out (.inl hag)); have cb4 := clx kb4; have cb5 := clx kb5; refine XV7c ?_
       iterate 3 refine lq ?_
       refine lqn false ?_
       refine lqn false ?_
       refine lqn false ?_
       refine lqn false ?_
       refine lqn false ?_
       refine lqn false ?_
       refine lqn false ?_
       refine lqn false ?_
       refine lqn false ?_; refine lqn false ?_; refine lqn false ?_; refine lq ?_; refine lq ?_
       refine lqn false ?_
       refine lqn false ?_
       refine lqn false ?_
       refine lqn false ?_
       refine lqn false ?_
       refine lqn false ?_
       refine lqn false ?_
       refine lqn false ?_
       refine lqn false ?_; refine lqn false ?_; refine lqn false ?_; refine lq ?_; refine listQ_nil ?_; intro _ hb66; clear cb4 cb5; clear qb4 qb5; replace hr7 := Rd.at hr7 hb66; replace hr9 := Rd.at hr9 hb66; revert HB; revert HL46; revert HL22; revert kb5; revert kb4; refine uA hb66 ?_; clear hb66; intro kb4 qb4 kb5 qb5 HL22 HL46 HB
       refine zx ?_; intros
       refine wp_abs (fun _ z' => ?_); replace sl0 := slg z' sl0; replace sl4 := slg z' sl4; replace sl7 := slg z' sl7; replace sl9 := slg z' sl9; replace sl11 := slg z' sl11; replace sl12 := slg z' sl12; replace sl14 := slg z' sl14; replace sl15 := slg z' sl15; have sl130 := gu 130 z'; clear z' sl16 sl17 sl88; refine cond_f ?_
       refine nr ?_; intros
       refine P3 ?_
       clear sl15 sl130; refine lx [15] ?_; clear sl0 sl4 sl7 sl9 sl11 sl12 sl14; intro _ sl0 sl4 sl7 sl9 sl11 sl12 sl14 sl15; refine ln ?_; intros
       refine ⟨_, _, rfl, ?_, k + 1, rfl, (by rw [sl14, Hfc.out]), (rL sl15), (sl0.trans hc2_0.out.symm), (sl4.trans hc2_4.out.symm), (sl7.trans hc2_7.out.symm), (sl9.trans hc2_9.out.symm), (sl11.trans hc2_11.out.symm), (sl12.trans hc2_12.out.symm), HL46.out, by omega⟩
       omega
      ·skip
       rw [decide_eq_false hag] at sl16; obtain ⟨b6, o6, ha6, hb6, r0, r1, r2, r3⟩ := RdEn.ne (Rd.oldB HR.out HB.out (by simp)) hk
       cases ha6
       rw [Hz.out] at r0 r1 r2 r3; obtain ⟨b7, o7, ha7, hb7, c0', c1'⟩ := RdUn.ne hr7 hi
       cases Hau.out.symm.trans ha7
       rw [Hu.out] at c0' c1'
       by_cases hm0 : z.mach = u.mach
       ·skip
        have cb4 := clx kb4; have cb5 := clx kb5; refine XV7c ?_
        iterate 3 refine lq ?_
        iterate 11 refine lqy ?_
        refine lq ?_; refine lq ?_
        iterate 11 refine lqy ?_
        refine lq ?_; refine listQ_nil ?_; intro _ hb; clear cb4 cb5; clear qb4 qb5; replace hr7 := Rd.at hr7 hb; replace hr9 := Rd.at hr9 hb; revert HB; revert HL46; revert HL22; revert kb5; revert kb4; refine uA hb ?_; clear hb; intro kb4 qb4 kb5 qb5 HL22 HL46 HB
        refine zx ?_; intros
        refine wp_abs (fun _ z' => ?_); replace sl0 := slg z' sl0; replace sl4 := slg z' sl4; replace sl7 := slg z' sl7; replace sl9 := slg z' sl9; replace sl11 := slg z' sl11; replace sl12 := slg z' sl12; replace sl14 := slg z' sl14; replace sl15 := slg z' sl15; have sl106 := gu 106 z'; have sl107 := gu 107 z'; have sl108 := gu 108 z'; have sl109 := gu 109 z'; have sl110 := gu 110 z'; have sl111 := gu 111 z'; have sl112 := gu 112 z'; have sl113 := gu 113 z'; have sl114 := gu 114 z'; have sl115 := gu 115 z'; have sl116 := gu 116 z'; have sl119 := gu 119 z'; have sl120 := gu 120 z'; have sl121 := gu 121 z'; have sl122 := gu 122 z'; have sl123 := gu 123 z'; have sl124 := gu 124 z'; have sl125 := gu 125 z'; have sl126 := gu 126 z'; have sl127 := gu 127 z'; have sl128 := gu 128 z'; have sl129 := gu 129 z'; have sl130 := gu 130 z'; clear z' sl16 sl17 sl88
        refine cond_E sl130 (by decide) ?_ ?_ <;> (clear sl130; intro h130 sl130)
        ·skip
         have Hfc := hid (fc_yes hk Hz.out hag (show z.u = u from (eq_unt _ _).2 ⟨hm0, (by have h := h130; simp at h; exact h)⟩))
         refine nr ?_; intros
         refine P3 ?_
         refine lsa fun s72 z' => ?_; replace sl0 := slg z' sl0; replace sl4 := slg z' sl4; replace sl7 := slg z' sl7; replace sl9 := slg z' sl9; replace sl11 := slg z' sl11; replace sl12 := slg z' sl12; replace sl14 := gu 14 z'; replace sl15 := slg z' sl15; replace sl106 := slg z' sl106; replace sl107 := slg z' sl107; replace sl108 := slg z' sl108; replace sl109 := slg z' sl109; replace sl110 := slg z' sl110; replace sl111 := slg z' sl111; replace sl112 := slg z' sl112; replace sl113 := slg z' sl113; replace sl114 := slg z' sl114; replace sl115 := slg z' sl115; replace sl116 := slg z' sl116; replace sl119 := slg z' sl119; replace sl120 := slg z' sl120; replace sl121 := slg z' sl121; replace sl122 := slg z' sl122; replace sl123 := slg z' sl123; replace sl124 := slg z' sl124; replace sl125 := slg z' sl125; replace sl126 := slg z' sl126; replace sl127 := slg z' sl127; replace sl128 := slg z' sl128; replace sl129 := slg z' sl129
         clear z' sl130; refine lr ?_; intros
         refine P3 ?_
         refine lsa fun s73 z' => ?_; replace sl0 := slg z' sl0; replace sl4 := slg z' sl4; replace sl7 := slg z' sl7; replace sl9 := slg z' sl9; replace sl11 := slg z' sl11; replace sl12 := slg z' sl12; replace sl14 := slg z' sl14; replace sl15 := gu 15 z'; replace sl106 := slg z' sl106; replace sl107 := slg z' sl107; replace sl108 := slg z' sl108; replace sl109 := slg z' sl109; replace sl110 := slg z' sl110; replace sl111 := slg z' sl111; replace sl112 := slg z' sl112; replace sl113 := slg z' sl113; replace sl114 := slg z' sl114; replace sl115 := slg z' sl115; replace sl116 := slg z' sl116; replace sl119 := slg z' sl119; replace sl120 := slg z' sl120; replace sl121 := slg z' sl121; replace sl122 := slg z' sl122; replace sl123 := slg z' sl123; replace sl124 := slg z' sl124; replace sl125 := slg z' sl125; replace sl126 := slg z' sl126; replace sl127 := slg z' sl127; replace sl128 := slg z' sl128; replace sl129 := slg z' sl129
         clear z'; refine ln ?_; intros
         refine ⟨_, _, rfl, ?_, k + 1, rfl, (by rw [sl14, Hfc.out, IntWalk.i64_in _ (by have := fc_le l u k; omega)]; rfl), (rL sl15), (sl0.trans hc2_0.out.symm), (sl4.trans hc2_4.out.symm), (sl7.trans hc2_7.out.symm), (sl9.trans hc2_9.out.symm), (sl11.trans hc2_11.out.symm), (sl12.trans hc2_12.out.symm), HL46.out, by omega⟩
         omega
        ·skip
         have Hfc := hid (fc_no (u := u) hk Hz.out (.inr (fun h => by have h9 := ((eq_unt _ _).1 (show z.u = u from h)).2; have h8 := h130; simp at h8; exact h8 h9)))
         refine nr ?_; intros
         refine P3 ?_
         refine lsa fun s74 z' => ?_; replace sl0 := slg z' sl0; replace sl4 := slg z' sl4; replace sl7 := slg z' sl7; replace sl9 := slg z' sl9; replace sl11 := slg z' sl11; replace sl12 := slg z' sl12; replace sl14 := slg z' sl14; replace sl15 := gu 15 z'; replace sl106 := slg z' sl106; replace sl107 := slg z' sl107; replace sl108 := slg z' sl108; replace sl109 := slg z' sl109; replace sl110 := slg z' sl110; replace sl111 := slg z' sl111; replace sl112 := slg z' sl112; replace sl113 := slg z' sl113; replace sl114 := slg z' sl114; replace sl115 := slg z' sl115; replace sl116 := slg z' sl116; replace sl119 := slg z' sl119; replace sl120 := slg z' sl120; replace sl121 := slg z' sl121; replace sl122 := slg z' sl122; replace sl123 := slg z' sl123; replace sl124 := slg z' sl124; replace sl125 := slg z' sl125; replace sl126 := slg z' sl126; replace sl127 := slg z' sl127; replace sl128 := slg z' sl128; replace sl129 := slg z' sl129
         clear z' sl130; refine ln ?_; intros
         refine ⟨_, _, rfl, ?_, k + 1, rfl, (by rw [sl14, Hfc.out]), (rL sl15), (sl0.trans hc2_0.out.symm), (sl4.trans hc2_4.out.symm), (sl7.trans hc2_7.out.symm), (sl9.trans hc2_9.out.symm), (sl11.trans hc2_11.out.symm), (sl12.trans hc2_12.out.symm), HL46.out, by omega⟩
         omega
       ·skip
        have Hfc := hid (fc_no (u := u) hk Hz.out (.inr (fun h => hm0 (congrArg Unt.mach h)))); have cb4 := clx kb4; have cb5 := clx kb5; refine XV7c ?_
        iterate 3 refine lq ?_
        iterate 11 refine lqy ?_
        refine lq ?_; refine lq ?_
        refine lqn false ?_
        refine lqn false ?_
        refine lqn false ?_
        refine lqn false ?_
        refine lqn false ?_
        refine lqn false ?_
        refine lqn false ?_
        refine lqn false ?_
        refine lqn false ?_; refine lqn false ?_; refine lqn false ?_; refine lq ?_; refine listQ_nil ?_; intro _ hb; clear cb4 cb5; clear qb4 qb5; replace hr7 := Rd.at hr7 hb; replace hr9 := Rd.at hr9 hb; revert HB; revert HL46; revert HL22; revert kb5; revert kb4; refine uA hb ?_; clear hb; intro kb4 qb4 kb5 qb5 HL22 HL46 HB
        refine zx ?_; intros
        refine wp_abs (fun _ z' => ?_); replace sl0 := slg z' sl0; replace sl4 := slg z' sl4; replace sl7 := slg z' sl7; replace sl9 := slg z' sl9; replace sl11 := slg z' sl11; replace sl12 := slg z' sl12; replace sl14 := slg z' sl14; replace sl15 := slg z' sl15; have sl106 := gu 106 z'; have sl107 := gu 107 z'; have sl108 := gu 108 z'; have sl109 := gu 109 z'; have sl110 := gu 110 z'; have sl111 := gu 111 z'; have sl112 := gu 112 z'; have sl113 := gu 113 z'; have sl114 := gu 114 z'; have sl115 := gu 115 z'; have sl116 := gu 116 z'; have sl130 := gu 130 z'; clear z' sl16 sl17 sl88; refine cond_f ?_
        refine nr ?_; intros
        refine P3 ?_
        clear sl15 sl130; refine lx [15] ?_; clear sl0 sl4 sl7 sl9 sl11 sl12 sl14 sl106 sl107 sl108 sl109 sl110 sl111 sl112 sl113 sl114 sl115 sl116; intro _ sl0 sl4 sl7 sl9 sl11 sl12 sl14 sl106 sl107 sl108 sl109 sl110 sl111 sl112 sl113 sl114 sl115 sl116 sl15; refine ln ?_; intros
        refine ⟨_, _, rfl, ?_, k + 1, rfl, (by rw [sl14, Hfc.out]), (rL sl15), (sl0.trans hc2_0.out.symm), (sl4.trans hc2_4.out.symm), (sl7.trans hc2_7.out.symm), (sl9.trans hc2_9.out.symm), (sl11.trans hc2_11.out.symm), (sl12.trans hc2_12.out.symm), HL46.out, by omega⟩
        omega
    ·skip
     have hk : k = l.length := by have h := h83; simp at h; omega
     rw [hk] at sl14
     refine zx ?_; intros
     clear HL46; clear hc2_0 hc2_4 hc2_7 hc2_9 hc2_11 hc2_12; refine region_F ?_
     refine P3 ?_
     refine py ?_; refine py ?_; have cb4 := clx kb4; refine py ?_; refine py ?_; refine pl ?_; clear sl12 sl14 sl15 sl83; refine lx [136,137,138,139,140] ?_; clear sl0 sl4 sl7 sl9 sl11; intro _ sl0 sl4 sl7 sl9 sl11 sl136 sl137 sl138 sl139 sl140; refine ln ?_; intros
     refine cond_f ?_
     refine nr ?_; intros
     refine P3 ?_
     refine lsa fun s80 z' => ?_; replace sl0 := slg z' sl0; replace sl4 := slg z' sl4; replace sl7 := slg z' sl7; replace sl9 := slg z' sl9; replace sl11 := gu 11 z'; replace sl136 := slg z' sl136; replace sl137 := slg z' sl137; replace sl138 := slg z' sl138; replace sl139 := slg z' sl139; clear z' sl140; refine ln ?_; intros
     clear cb4; rw [← Hau.out] at sl7; refine ⟨_, _, rfl, ?_, i + 1, rfl, (rL sl11), (sl0.trans hc0_0.out.symm), (sl4.trans hc0_4.out.symm), (sl7.trans hc0_7.out.symm), (sl9.trans hc0_9.out.symm), HL22.out, by omega⟩
     omega
  ·skip
   refine zx ?_; intros
   clear HL22; clear hc0_0 hc0_4 hc0_7 hc0_9; refine region_F ?_; refine cal (awake_any _) ?_; rintro e _ ⟨rfl, hb⟩; refine ⟨_, rfl, ?_⟩; clear qb4 qb5; replace hr7 := Rd.at hr7 hb; replace hr9 := Rd.at hr9 hb; revert HB; revert kb5; revert kb4; refine uA hb ?_; clear hb; intro kb4 qb4 kb5 qb5 HB; refine pl ?_; clear sl0 sl4 sl7 sl9 sl11 sl59; refine lx [6] ?_; intro _ sl6; refine ln ?_; intros
   refine ret_F _ (res_t Tryz.results9 ((getD_F (by decide)).trans sl6)) ?_; exact ⟨rfl, HB.out.toBelow⟩

end Go.Proofs.YtleknidlgmmgbaaGreat
